/-
  NARROWER THAN 'FOR EVERY INPUT', by the rows' own cells (each row's printed sentence says how): FnUnit: laid · FnRotator: laid · FnPlate: laid · FnScale: laid · FnLossless: laid · FnDet: laid · FnMatAlike: laid · FnApply: laid.
  DERIVED. THE GIVEN ROWS OF THIS SEAT. 8 by the template 'for every input the law returns true; each argument reads behind the call as it read before'; 0 by the template 'total and deterministic' (their statements: YtcpdapfcbnhgaaaDoorTotals.lean).
  GIVEN WITH THE SEED: the statements are not yours to turn. If you find one false, say at which input.
  Laid BY PROGRAM, IN A SANDBOX (cutbox-rows.mjs): the forced cells as the released guide's own fill.sh prints them over the translation 5e0143acbb4c584c… (all of the seat's roots in one cut). By AI agents, Wed Nov 11 2026. No macro, syntax, notation, axiom, sorry.
-/
import Derived.Test.YtcpdapfcbnhgaaaDoorChecked
import GoSem.Claim
import GoSem.ClaimJoined
import GoSem.ClaimMapViews
import Derived.JoinedTies
import Derived.KernelRfl
namespace Go.Proofs.YtcpdapfcbnhgaaaDoor
/- THE CELL 'sum', in the pinned program and in every row, IS THE sha256 OF THE DUMP (.gsa) THAT YtcpdapfcbnhgaaaDoorProg.lean LOADS. Nothing in Lean hashes anything: it is a label: what it is worth is what the hold of that sum in a sandbox is worth. -/
noncomputable def Tryd.pinned : Pinned := { name := "ytcpdapfcbnhgaaadoor", sum := "5e0143acbb4c584c9382a887ecd3d6dd9ba232b8e2daf50d96e0359af968ec5c", checked := Tryd.checked }
namespace Rows
def none {H : Type} : Left H := { results := [], args := [] }

/- WHAT THE LISTED PACKAGE-LEVEL VARIABLES READ AS WHEN THE CALL BEGINS. Each datum BY PROGRAM (the guide's laid-datum.mjs) off the statement by which the dump's own 'gosem.cut.vars' lays the variable. In a bare row this is a premise. The card (YtcpdapfcbnhgaaaDoorCards.lean) ties it to the program's text. -/
def laid_loop_example_polarisedlight_impl_zero {H : Type} : DataW H := .agg [.lit (.int .i64 0), .lit (.int .i64 0), .lit (.int .i64 1)]
def laid_loop_example_polarisedlight_impl_same {H : Type} : DataW H := .agg [.agg [.agg [.lit (.int .i64 1), .lit (.int .i64 0), .lit (.int .i64 1)], .agg [.lit (.int .i64 0), .lit (.int .i64 0), .lit (.int .i64 1)], .agg [.lit (.int .i64 0), .lit (.int .i64 0), .lit (.int .i64 1)], .agg [.lit (.int .i64 1), .lit (.int .i64 0), .lit (.int .i64 1)]]]
def laid_loop_example_polarisedlight_impl_one {H : Type} : DataW H := .agg [.lit (.int .i64 1), .lit (.int .i64 0), .lit (.int .i64 1)]
def laid_loop_example_polarisedlight_impl_turns {H : Type} : DataW H := .agg [.agg [.lit (.int .i64 1), .lit (.int .i64 0), .lit (.int .i64 1)], .agg [.lit (.int .i64 0), .lit (.int .i64 1), .lit (.int .i64 1)], .agg [.lit (.int .i64 (-1)), .lit (.int .i64 0), .lit (.int .i64 1)], .agg [.lit (.int .i64 0), .lit (.int .i64 (-1)), .lit (.int .i64 1)]]

/-- 'laws.FnUnit': WHATEVER THE INPUT: true; the input reads as it did. -/
def fnUnitSpec : ChangeSpec := { name := "fnUnit", vars := ["loop.example/polarisedlight/impl.zero"], fn := fun _ => fun
  | [d, g1] => { results := [.lit (.bool true)], args := [d], vars := [g1] }
  | _ => none }
def fnUnitRow : OpenClaim := { program := "ytcpdapfcbnhgaaadoor", sum := "5e0143acbb4c584c9382a887ecd3d6dd9ba232b8e2daf50d96e0359af968ec5c", func := "loop.example/polarisedlight/laws.FnUnit", spec := "fnUnit", named := ["loop.example/polarisedlight/impl.zero"], apart := false, laid := [("loop.example/polarisedlight/impl.zero", laid_loop_example_polarisedlight_impl_zero)] }
def FnUnitSaid : Prop := fnUnitRow.holds Tryd.pinned (OpenSpec.ofChange fnUnitSpec)

/-- ITS FALSE NEIGHBOUR: 'it returns false'. Refute it at one input. -/
def fnUnitWrong : ChangeSpec := { name := "fnUnit", vars := ["loop.example/polarisedlight/impl.zero"], fn := fun _ => fun
  | [d, g1] => { results := [.lit (.bool false)], args := [d], vars := [g1] }
  | _ => none }
def FnUnitWrongFalsely : Prop := fnUnitRow.holds Tryd.pinned (OpenSpec.ofChange fnUnitWrong)

/-- 'laws.FnRotator': WHATEVER THE INPUT: true; the input reads as it did. -/
def fnRotatorSpec : ChangeSpec := { name := "fnRotator", vars := ["loop.example/polarisedlight/impl.same"], fn := fun _ => fun
  | [d, g1] => { results := [.lit (.bool true)], args := [d], vars := [g1] }
  | _ => none }
def fnRotatorRow : OpenClaim := { program := "ytcpdapfcbnhgaaadoor", sum := "5e0143acbb4c584c9382a887ecd3d6dd9ba232b8e2daf50d96e0359af968ec5c", func := "loop.example/polarisedlight/laws.FnRotator", spec := "fnRotator", unfollowed := true, recurses := true, named := ["loop.example/polarisedlight/impl.same"], apart := false, laid := [("loop.example/polarisedlight/impl.same", laid_loop_example_polarisedlight_impl_same)] }
def FnRotatorSaid : Prop := fnRotatorRow.holds Tryd.pinned (OpenSpec.ofChange fnRotatorSpec)

/-- ITS FALSE NEIGHBOUR: 'it returns false'. Refute it at one input. -/
def fnRotatorWrong : ChangeSpec := { name := "fnRotator", vars := ["loop.example/polarisedlight/impl.same"], fn := fun _ => fun
  | [d, g1] => { results := [.lit (.bool false)], args := [d], vars := [g1] }
  | _ => none }
def FnRotatorWrongFalsely : Prop := fnRotatorRow.holds Tryd.pinned (OpenSpec.ofChange fnRotatorWrong)

/-- 'laws.FnPlate': WHATEVER THE INPUT: true; the input reads as it did. -/
def fnPlateSpec : ChangeSpec := { name := "fnPlate", vars := ["loop.example/polarisedlight/impl.one", "loop.example/polarisedlight/impl.zero", "loop.example/polarisedlight/impl.turns", "loop.example/polarisedlight/impl.same"], fn := fun _ => fun
  | [d, g1, g2, g3, g4] => { results := [.lit (.bool true)], args := [d], vars := [g1, g2, g3, g4] }
  | _ => none }
def fnPlateRow : OpenClaim := { program := "ytcpdapfcbnhgaaadoor", sum := "5e0143acbb4c584c9382a887ecd3d6dd9ba232b8e2daf50d96e0359af968ec5c", func := "loop.example/polarisedlight/laws.FnPlate", spec := "fnPlate", unfollowed := true, recurses := true, named := ["loop.example/polarisedlight/impl.one", "loop.example/polarisedlight/impl.zero", "loop.example/polarisedlight/impl.turns", "loop.example/polarisedlight/impl.same"], apart := false, laid := [("loop.example/polarisedlight/impl.zero", laid_loop_example_polarisedlight_impl_zero), ("loop.example/polarisedlight/impl.one", laid_loop_example_polarisedlight_impl_one), ("loop.example/polarisedlight/impl.turns", laid_loop_example_polarisedlight_impl_turns), ("loop.example/polarisedlight/impl.same", laid_loop_example_polarisedlight_impl_same)] }
def FnPlateSaid : Prop := fnPlateRow.holds Tryd.pinned (OpenSpec.ofChange fnPlateSpec)

/-- ITS FALSE NEIGHBOUR: 'it returns false'. Refute it at one input. -/
def fnPlateWrong : ChangeSpec := { name := "fnPlate", vars := ["loop.example/polarisedlight/impl.one", "loop.example/polarisedlight/impl.zero", "loop.example/polarisedlight/impl.turns", "loop.example/polarisedlight/impl.same"], fn := fun _ => fun
  | [d, g1, g2, g3, g4] => { results := [.lit (.bool false)], args := [d], vars := [g1, g2, g3, g4] }
  | _ => none }
def FnPlateWrongFalsely : Prop := fnPlateRow.holds Tryd.pinned (OpenSpec.ofChange fnPlateWrong)

/-- 'laws.FnScale': WHATEVER THE INPUT: true; the input reads as it did. -/
def fnScaleSpec : ChangeSpec := { name := "fnScale", vars := ["loop.example/polarisedlight/impl.zero"], fn := fun _ => fun
  | [d, g1] => { results := [.lit (.bool true)], args := [d], vars := [g1] }
  | _ => none }
def fnScaleRow : OpenClaim := { program := "ytcpdapfcbnhgaaadoor", sum := "5e0143acbb4c584c9382a887ecd3d6dd9ba232b8e2daf50d96e0359af968ec5c", func := "loop.example/polarisedlight/laws.FnScale", spec := "fnScale", named := ["loop.example/polarisedlight/impl.zero"], apart := false, laid := [("loop.example/polarisedlight/impl.zero", laid_loop_example_polarisedlight_impl_zero)] }
def FnScaleSaid : Prop := fnScaleRow.holds Tryd.pinned (OpenSpec.ofChange fnScaleSpec)

/-- ITS FALSE NEIGHBOUR: 'it returns false'. Refute it at one input. -/
def fnScaleWrong : ChangeSpec := { name := "fnScale", vars := ["loop.example/polarisedlight/impl.zero"], fn := fun _ => fun
  | [d, g1] => { results := [.lit (.bool false)], args := [d], vars := [g1] }
  | _ => none }
def FnScaleWrongFalsely : Prop := fnScaleRow.holds Tryd.pinned (OpenSpec.ofChange fnScaleWrong)

/-- 'laws.FnLossless': WHATEVER THE INPUT: true; the input reads as it did. -/
def fnLosslessSpec : ChangeSpec := { name := "fnLossless", vars := ["loop.example/polarisedlight/impl.same"], fn := fun _ => fun
  | [d, g1] => { results := [.lit (.bool true)], args := [d], vars := [g1] }
  | _ => none }
def fnLosslessRow : OpenClaim := { program := "ytcpdapfcbnhgaaadoor", sum := "5e0143acbb4c584c9382a887ecd3d6dd9ba232b8e2daf50d96e0359af968ec5c", func := "loop.example/polarisedlight/laws.FnLossless", spec := "fnLossless", unfollowed := true, recurses := true, named := ["loop.example/polarisedlight/impl.same"], apart := false, laid := [("loop.example/polarisedlight/impl.same", laid_loop_example_polarisedlight_impl_same)] }
def FnLosslessSaid : Prop := fnLosslessRow.holds Tryd.pinned (OpenSpec.ofChange fnLosslessSpec)

/-- ITS FALSE NEIGHBOUR: 'it returns false'. Refute it at one input. -/
def fnLosslessWrong : ChangeSpec := { name := "fnLossless", vars := ["loop.example/polarisedlight/impl.same"], fn := fun _ => fun
  | [d, g1] => { results := [.lit (.bool false)], args := [d], vars := [g1] }
  | _ => none }
def FnLosslessWrongFalsely : Prop := fnLosslessRow.holds Tryd.pinned (OpenSpec.ofChange fnLosslessWrong)

/-- 'laws.FnDet': WHATEVER THE INPUT: true; the input reads as it did. -/
def fnDetSpec : ChangeSpec := { name := "fnDet", vars := ["loop.example/polarisedlight/impl.same"], fn := fun _ => fun
  | [d, g1] => { results := [.lit (.bool true)], args := [d], vars := [g1] }
  | _ => none }
def fnDetRow : OpenClaim := { program := "ytcpdapfcbnhgaaadoor", sum := "5e0143acbb4c584c9382a887ecd3d6dd9ba232b8e2daf50d96e0359af968ec5c", func := "loop.example/polarisedlight/laws.FnDet", spec := "fnDet", unfollowed := true, recurses := true, named := ["loop.example/polarisedlight/impl.same"], apart := false, laid := [("loop.example/polarisedlight/impl.same", laid_loop_example_polarisedlight_impl_same)] }
def FnDetSaid : Prop := fnDetRow.holds Tryd.pinned (OpenSpec.ofChange fnDetSpec)

/-- ITS FALSE NEIGHBOUR: 'it returns false'. Refute it at one input. -/
def fnDetWrong : ChangeSpec := { name := "fnDet", vars := ["loop.example/polarisedlight/impl.same"], fn := fun _ => fun
  | [d, g1] => { results := [.lit (.bool false)], args := [d], vars := [g1] }
  | _ => none }
def FnDetWrongFalsely : Prop := fnDetRow.holds Tryd.pinned (OpenSpec.ofChange fnDetWrong)

/-- 'laws.FnMatAlike': WHATEVER THE INPUT: true; the input reads as it did. -/
def fnMatAlikeSpec : ChangeSpec := { name := "fnMatAlike", vars := ["loop.example/polarisedlight/impl.zero"], fn := fun _ => fun
  | [d, g1] => { results := [.lit (.bool true)], args := [d], vars := [g1] }
  | _ => none }
def fnMatAlikeRow : OpenClaim := { program := "ytcpdapfcbnhgaaadoor", sum := "5e0143acbb4c584c9382a887ecd3d6dd9ba232b8e2daf50d96e0359af968ec5c", func := "loop.example/polarisedlight/laws.FnMatAlike", spec := "fnMatAlike", unfollowed := true, recurses := true, named := ["loop.example/polarisedlight/impl.zero"], apart := false, laid := [("loop.example/polarisedlight/impl.zero", laid_loop_example_polarisedlight_impl_zero)] }
def FnMatAlikeSaid : Prop := fnMatAlikeRow.holds Tryd.pinned (OpenSpec.ofChange fnMatAlikeSpec)

/-- ITS FALSE NEIGHBOUR: 'it returns false'. Refute it at one input. -/
def fnMatAlikeWrong : ChangeSpec := { name := "fnMatAlike", vars := ["loop.example/polarisedlight/impl.zero"], fn := fun _ => fun
  | [d, g1] => { results := [.lit (.bool false)], args := [d], vars := [g1] }
  | _ => none }
def FnMatAlikeWrongFalsely : Prop := fnMatAlikeRow.holds Tryd.pinned (OpenSpec.ofChange fnMatAlikeWrong)

/-- 'laws.FnApply': WHATEVER THE INPUT: true; the input reads as it did. -/
def fnApplySpec : ChangeSpec := { name := "fnApply", vars := ["loop.example/polarisedlight/impl.same"], fn := fun _ => fun
  | [d, g1] => { results := [.lit (.bool true)], args := [d], vars := [g1] }
  | _ => none }
def fnApplyRow : OpenClaim := { program := "ytcpdapfcbnhgaaadoor", sum := "5e0143acbb4c584c9382a887ecd3d6dd9ba232b8e2daf50d96e0359af968ec5c", func := "loop.example/polarisedlight/laws.FnApply", spec := "fnApply", unfollowed := true, recurses := true, named := ["loop.example/polarisedlight/impl.same"], apart := false, laid := [("loop.example/polarisedlight/impl.same", laid_loop_example_polarisedlight_impl_same)] }
def FnApplySaid : Prop := fnApplyRow.holds Tryd.pinned (OpenSpec.ofChange fnApplySpec)

/-- ITS FALSE NEIGHBOUR: 'it returns false'. Refute it at one input. -/
def fnApplyWrong : ChangeSpec := { name := "fnApply", vars := ["loop.example/polarisedlight/impl.same"], fn := fun _ => fun
  | [d, g1] => { results := [.lit (.bool false)], args := [d], vars := [g1] }
  | _ => none }
def FnApplyWrongFalsely : Prop := fnApplyRow.holds Tryd.pinned (OpenSpec.ofChange fnApplyWrong)

/- THE SECOND FORM. 'bulk': how many values and letters a reading holds, each counted each time it is reached (what is shared counts as often as it is met; a slice's spare places count too). A statement '..UptoSaid' is the law's where the arguments, and the package variables that the reading takes, are together of bulk at most 1048576: NARROWER than '..Said'. Prove '..Said' where nothing that the law and all that it calls make is longer than what came in: it says more and counts as full. Else prove '..UptoSaid'. A law counts once. -/
mutual
def uptoBulk {H : Type} : DataW H → Nat
  | .lit (.string bytes) => bytes.length + 1
  | .lit _ => 1
  | .nil => 1
  | .ptr d => uptoBulk d + 1
  | .slice elems spare => uptoBulkAll elems + uptoBulkAll spare + 1
  | .agg parts => uptoBulkAll parts + 1
  | .iface _ d => uptoBulk d + 1
  | .map entries => uptoBulkEntries entries + 1
  | .held _ => 1
def uptoBulkAll {H : Type} : List (DataW H) → Nat
  | [] => 0
  | d :: r => uptoBulk d + uptoBulkAll r
def uptoBulkEntries {H : Type} : List (Lit × DataW H) → Nat
  | [] => 0
  | x :: r => uptoBulkEntry x + uptoBulkEntries r
def uptoBulkEntry {H : Type} : Lit × DataW H → Nat
  | (.string bytes, d) => bytes.length + uptoBulk d + 1
  | (_, d) => uptoBulk d + 1
 end
def uptoSmall : (H : Type) → List (DataW H) → Bool := fun _ ds => decide (uptoBulkAll ds ≤ 1048576)
def OpenSpec.upto (s : _root_.Go.ChangeSpec) : _root_.Go.OpenSpec := { _root_.Go.OpenSpec.ofChange s with cond := some uptoSmall }

/-- 'laws.FnUnit', WHERE WHAT IT READS IS OF BULK AT MOST 1048576: true; the input reads as it did. -/
def fnUnitUptoRow : OpenClaim := { program := "ytcpdapfcbnhgaaadoor", sum := "5e0143acbb4c584c9382a887ecd3d6dd9ba232b8e2daf50d96e0359af968ec5c", func := "loop.example/polarisedlight/laws.FnUnit", spec := "fnUnit", named := ["loop.example/polarisedlight/impl.zero"], apart := false, laid := [("loop.example/polarisedlight/impl.zero", laid_loop_example_polarisedlight_impl_zero)], narrowed := true }
def FnUnitUptoSaid : Prop := fnUnitUptoRow.holds Tryd.pinned (OpenSpec.upto fnUnitSpec)

/-- 'laws.FnRotator', WHERE WHAT IT READS IS OF BULK AT MOST 1048576: true; the input reads as it did. -/
def fnRotatorUptoRow : OpenClaim := { program := "ytcpdapfcbnhgaaadoor", sum := "5e0143acbb4c584c9382a887ecd3d6dd9ba232b8e2daf50d96e0359af968ec5c", func := "loop.example/polarisedlight/laws.FnRotator", spec := "fnRotator", unfollowed := true, recurses := true, named := ["loop.example/polarisedlight/impl.same"], apart := false, laid := [("loop.example/polarisedlight/impl.same", laid_loop_example_polarisedlight_impl_same)], narrowed := true }
def FnRotatorUptoSaid : Prop := fnRotatorUptoRow.holds Tryd.pinned (OpenSpec.upto fnRotatorSpec)

/-- 'laws.FnPlate', WHERE WHAT IT READS IS OF BULK AT MOST 1048576: true; the input reads as it did. -/
def fnPlateUptoRow : OpenClaim := { program := "ytcpdapfcbnhgaaadoor", sum := "5e0143acbb4c584c9382a887ecd3d6dd9ba232b8e2daf50d96e0359af968ec5c", func := "loop.example/polarisedlight/laws.FnPlate", spec := "fnPlate", unfollowed := true, recurses := true, named := ["loop.example/polarisedlight/impl.one", "loop.example/polarisedlight/impl.zero", "loop.example/polarisedlight/impl.turns", "loop.example/polarisedlight/impl.same"], apart := false, laid := [("loop.example/polarisedlight/impl.zero", laid_loop_example_polarisedlight_impl_zero), ("loop.example/polarisedlight/impl.one", laid_loop_example_polarisedlight_impl_one), ("loop.example/polarisedlight/impl.turns", laid_loop_example_polarisedlight_impl_turns), ("loop.example/polarisedlight/impl.same", laid_loop_example_polarisedlight_impl_same)], narrowed := true }
def FnPlateUptoSaid : Prop := fnPlateUptoRow.holds Tryd.pinned (OpenSpec.upto fnPlateSpec)

/-- 'laws.FnScale', WHERE WHAT IT READS IS OF BULK AT MOST 1048576: true; the input reads as it did. -/
def fnScaleUptoRow : OpenClaim := { program := "ytcpdapfcbnhgaaadoor", sum := "5e0143acbb4c584c9382a887ecd3d6dd9ba232b8e2daf50d96e0359af968ec5c", func := "loop.example/polarisedlight/laws.FnScale", spec := "fnScale", named := ["loop.example/polarisedlight/impl.zero"], apart := false, laid := [("loop.example/polarisedlight/impl.zero", laid_loop_example_polarisedlight_impl_zero)], narrowed := true }
def FnScaleUptoSaid : Prop := fnScaleUptoRow.holds Tryd.pinned (OpenSpec.upto fnScaleSpec)

/-- 'laws.FnLossless', WHERE WHAT IT READS IS OF BULK AT MOST 1048576: true; the input reads as it did. -/
def fnLosslessUptoRow : OpenClaim := { program := "ytcpdapfcbnhgaaadoor", sum := "5e0143acbb4c584c9382a887ecd3d6dd9ba232b8e2daf50d96e0359af968ec5c", func := "loop.example/polarisedlight/laws.FnLossless", spec := "fnLossless", unfollowed := true, recurses := true, named := ["loop.example/polarisedlight/impl.same"], apart := false, laid := [("loop.example/polarisedlight/impl.same", laid_loop_example_polarisedlight_impl_same)], narrowed := true }
def FnLosslessUptoSaid : Prop := fnLosslessUptoRow.holds Tryd.pinned (OpenSpec.upto fnLosslessSpec)

/-- 'laws.FnDet', WHERE WHAT IT READS IS OF BULK AT MOST 1048576: true; the input reads as it did. -/
def fnDetUptoRow : OpenClaim := { program := "ytcpdapfcbnhgaaadoor", sum := "5e0143acbb4c584c9382a887ecd3d6dd9ba232b8e2daf50d96e0359af968ec5c", func := "loop.example/polarisedlight/laws.FnDet", spec := "fnDet", unfollowed := true, recurses := true, named := ["loop.example/polarisedlight/impl.same"], apart := false, laid := [("loop.example/polarisedlight/impl.same", laid_loop_example_polarisedlight_impl_same)], narrowed := true }
def FnDetUptoSaid : Prop := fnDetUptoRow.holds Tryd.pinned (OpenSpec.upto fnDetSpec)

/-- 'laws.FnMatAlike', WHERE WHAT IT READS IS OF BULK AT MOST 1048576: true; the input reads as it did. -/
def fnMatAlikeUptoRow : OpenClaim := { program := "ytcpdapfcbnhgaaadoor", sum := "5e0143acbb4c584c9382a887ecd3d6dd9ba232b8e2daf50d96e0359af968ec5c", func := "loop.example/polarisedlight/laws.FnMatAlike", spec := "fnMatAlike", unfollowed := true, recurses := true, named := ["loop.example/polarisedlight/impl.zero"], apart := false, laid := [("loop.example/polarisedlight/impl.zero", laid_loop_example_polarisedlight_impl_zero)], narrowed := true }
def FnMatAlikeUptoSaid : Prop := fnMatAlikeUptoRow.holds Tryd.pinned (OpenSpec.upto fnMatAlikeSpec)

/-- 'laws.FnApply', WHERE WHAT IT READS IS OF BULK AT MOST 1048576: true; the input reads as it did. -/
def fnApplyUptoRow : OpenClaim := { program := "ytcpdapfcbnhgaaadoor", sum := "5e0143acbb4c584c9382a887ecd3d6dd9ba232b8e2daf50d96e0359af968ec5c", func := "loop.example/polarisedlight/laws.FnApply", spec := "fnApply", unfollowed := true, recurses := true, named := ["loop.example/polarisedlight/impl.same"], apart := false, laid := [("loop.example/polarisedlight/impl.same", laid_loop_example_polarisedlight_impl_same)], narrowed := true }
def FnApplyUptoSaid : Prop := fnApplyUptoRow.holds Tryd.pinned (OpenSpec.upto fnApplySpec)

end Rows
end Go.Proofs.YtcpdapfcbnhgaaaDoor
