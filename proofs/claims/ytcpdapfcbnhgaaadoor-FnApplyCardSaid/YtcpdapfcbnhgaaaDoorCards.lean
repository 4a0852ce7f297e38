/-
  DERIVED. GIVEN WITH THE SEED: THE CARDS: each row of YtcpdapfcbnhgaaaDoorRows.lean that lists a variable, with what it lists TIED to the program's text (the seventh form; the later family's looks); each row that meets fmt, with fmt's text TOLD by the authors' own Lean function (tested against real Go, not proved from fmt's source: count such statements apart). THE CARD IS WHAT COUNTS. Prove the row's statement (the work); the ties are given (YtcpdapfcbnhgaaaDoorTie.lean); close each card by the builder's one call (the guide's Derived/Test/ToyasCard.lean, 'card_holds'). Laid BY PROGRAM, IN A SANDBOX (cutbox-door.mjs). By AI agents, Wed Nov 11 2026. No macro, syntax, notation, axiom, sorry.
-/
import Derived.Test.YtcpdapfcbnhgaaaDoorRows
import GoSem.ClaimSeven
namespace Go.Proofs.YtcpdapfcbnhgaaaDoor
namespace Rows

/-- THE TIED CARD OF 'laws.FnUnit'. -/
def fnUnitCard : Claim7 := { stood := { row := fnUnitRow, standIns := [], harness := (true, "3d2c88d957d06082902c58164e94ed0f70d9b698276363a5f755186a5af957fe"), looks := false }, kinds := [], alts := [], laidByText := true, laidKinds := [.data], laidTests := true, laidLooks := .later }
def FnUnitCardSaid : Prop := Claim7.holds Tryd.pinned (.plain (OpenSpec.ofChange fnUnitSpec)) fnUnitCard

/-- THE TIED CARD OF 'laws.FnRotator'. -/
def fnRotatorCard : Claim7 := { stood := { row := fnRotatorRow, standIns := [], harness := (true, "3d2c88d957d06082902c58164e94ed0f70d9b698276363a5f755186a5af957fe"), looks := false }, kinds := [], alts := [], laidByText := true, laidKinds := [.data], laidTests := true, laidLooks := .later }
def FnRotatorCardSaid : Prop := Claim7.holds Tryd.pinned (.plain (OpenSpec.ofChange fnRotatorSpec)) fnRotatorCard

/-- THE TIED CARD OF 'laws.FnPlate'. -/
def fnPlateCard : Claim7 := { stood := { row := fnPlateRow, standIns := [], harness := (true, "3d2c88d957d06082902c58164e94ed0f70d9b698276363a5f755186a5af957fe"), looks := false }, kinds := [], alts := [], laidByText := true, laidKinds := [.data, .data, .data, .data], laidTests := true, laidLooks := .later }
def FnPlateCardSaid : Prop := Claim7.holds Tryd.pinned (.plain (OpenSpec.ofChange fnPlateSpec)) fnPlateCard

/-- THE TIED CARD OF 'laws.FnScale'. -/
def fnScaleCard : Claim7 := { stood := { row := fnScaleRow, standIns := [], harness := (true, "3d2c88d957d06082902c58164e94ed0f70d9b698276363a5f755186a5af957fe"), looks := false }, kinds := [], alts := [], laidByText := true, laidKinds := [.data], laidTests := true, laidLooks := .later }
def FnScaleCardSaid : Prop := Claim7.holds Tryd.pinned (.plain (OpenSpec.ofChange fnScaleSpec)) fnScaleCard

/-- THE TIED CARD OF 'laws.FnLossless'. -/
def fnLosslessCard : Claim7 := { stood := { row := fnLosslessRow, standIns := [], harness := (true, "3d2c88d957d06082902c58164e94ed0f70d9b698276363a5f755186a5af957fe"), looks := false }, kinds := [], alts := [], laidByText := true, laidKinds := [.data], laidTests := true, laidLooks := .later }
def FnLosslessCardSaid : Prop := Claim7.holds Tryd.pinned (.plain (OpenSpec.ofChange fnLosslessSpec)) fnLosslessCard

/-- THE TIED CARD OF 'laws.FnDet'. -/
def fnDetCard : Claim7 := { stood := { row := fnDetRow, standIns := [], harness := (true, "3d2c88d957d06082902c58164e94ed0f70d9b698276363a5f755186a5af957fe"), looks := false }, kinds := [], alts := [], laidByText := true, laidKinds := [.data], laidTests := true, laidLooks := .later }
def FnDetCardSaid : Prop := Claim7.holds Tryd.pinned (.plain (OpenSpec.ofChange fnDetSpec)) fnDetCard

/-- THE TIED CARD OF 'laws.FnMatAlike'. -/
def fnMatAlikeCard : Claim7 := { stood := { row := fnMatAlikeRow, standIns := [], harness := (true, "3d2c88d957d06082902c58164e94ed0f70d9b698276363a5f755186a5af957fe"), looks := false }, kinds := [], alts := [], laidByText := true, laidKinds := [.data], laidTests := true, laidLooks := .later }
def FnMatAlikeCardSaid : Prop := Claim7.holds Tryd.pinned (.plain (OpenSpec.ofChange fnMatAlikeSpec)) fnMatAlikeCard

/-- THE TIED CARD OF 'laws.FnApply'. -/
def fnApplyCard : Claim7 := { stood := { row := fnApplyRow, standIns := [], harness := (true, "3d2c88d957d06082902c58164e94ed0f70d9b698276363a5f755186a5af957fe"), looks := false }, kinds := [], alts := [], laidByText := true, laidKinds := [.data], laidTests := true, laidLooks := .later }
def FnApplyCardSaid : Prop := Claim7.holds Tryd.pinned (.plain (OpenSpec.ofChange fnApplySpec)) fnApplyCard

/-- THE SECOND FORM's CARD OF 'laws.FnUnit'. -/
def fnUnitUptoCard : Claim7 := { stood := { row := fnUnitUptoRow, standIns := [], harness := (true, "3d2c88d957d06082902c58164e94ed0f70d9b698276363a5f755186a5af957fe"), looks := false }, kinds := [], alts := [], laidByText := true, laidKinds := [.data], laidTests := true, laidLooks := .later }
def FnUnitUptoCardSaid : Prop := Claim7.holds Tryd.pinned (.plain (OpenSpec.upto fnUnitSpec)) fnUnitUptoCard

/-- THE SECOND FORM's CARD OF 'laws.FnRotator'. -/
def fnRotatorUptoCard : Claim7 := { stood := { row := fnRotatorUptoRow, standIns := [], harness := (true, "3d2c88d957d06082902c58164e94ed0f70d9b698276363a5f755186a5af957fe"), looks := false }, kinds := [], alts := [], laidByText := true, laidKinds := [.data], laidTests := true, laidLooks := .later }
def FnRotatorUptoCardSaid : Prop := Claim7.holds Tryd.pinned (.plain (OpenSpec.upto fnRotatorSpec)) fnRotatorUptoCard

/-- THE SECOND FORM's CARD OF 'laws.FnPlate'. -/
def fnPlateUptoCard : Claim7 := { stood := { row := fnPlateUptoRow, standIns := [], harness := (true, "3d2c88d957d06082902c58164e94ed0f70d9b698276363a5f755186a5af957fe"), looks := false }, kinds := [], alts := [], laidByText := true, laidKinds := [.data, .data, .data, .data], laidTests := true, laidLooks := .later }
def FnPlateUptoCardSaid : Prop := Claim7.holds Tryd.pinned (.plain (OpenSpec.upto fnPlateSpec)) fnPlateUptoCard

/-- THE SECOND FORM's CARD OF 'laws.FnScale'. -/
def fnScaleUptoCard : Claim7 := { stood := { row := fnScaleUptoRow, standIns := [], harness := (true, "3d2c88d957d06082902c58164e94ed0f70d9b698276363a5f755186a5af957fe"), looks := false }, kinds := [], alts := [], laidByText := true, laidKinds := [.data], laidTests := true, laidLooks := .later }
def FnScaleUptoCardSaid : Prop := Claim7.holds Tryd.pinned (.plain (OpenSpec.upto fnScaleSpec)) fnScaleUptoCard

/-- THE SECOND FORM's CARD OF 'laws.FnLossless'. -/
def fnLosslessUptoCard : Claim7 := { stood := { row := fnLosslessUptoRow, standIns := [], harness := (true, "3d2c88d957d06082902c58164e94ed0f70d9b698276363a5f755186a5af957fe"), looks := false }, kinds := [], alts := [], laidByText := true, laidKinds := [.data], laidTests := true, laidLooks := .later }
def FnLosslessUptoCardSaid : Prop := Claim7.holds Tryd.pinned (.plain (OpenSpec.upto fnLosslessSpec)) fnLosslessUptoCard

/-- THE SECOND FORM's CARD OF 'laws.FnDet'. -/
def fnDetUptoCard : Claim7 := { stood := { row := fnDetUptoRow, standIns := [], harness := (true, "3d2c88d957d06082902c58164e94ed0f70d9b698276363a5f755186a5af957fe"), looks := false }, kinds := [], alts := [], laidByText := true, laidKinds := [.data], laidTests := true, laidLooks := .later }
def FnDetUptoCardSaid : Prop := Claim7.holds Tryd.pinned (.plain (OpenSpec.upto fnDetSpec)) fnDetUptoCard

/-- THE SECOND FORM's CARD OF 'laws.FnMatAlike'. -/
def fnMatAlikeUptoCard : Claim7 := { stood := { row := fnMatAlikeUptoRow, standIns := [], harness := (true, "3d2c88d957d06082902c58164e94ed0f70d9b698276363a5f755186a5af957fe"), looks := false }, kinds := [], alts := [], laidByText := true, laidKinds := [.data], laidTests := true, laidLooks := .later }
def FnMatAlikeUptoCardSaid : Prop := Claim7.holds Tryd.pinned (.plain (OpenSpec.upto fnMatAlikeSpec)) fnMatAlikeUptoCard

/-- THE SECOND FORM's CARD OF 'laws.FnApply'. -/
def fnApplyUptoCard : Claim7 := { stood := { row := fnApplyUptoRow, standIns := [], harness := (true, "3d2c88d957d06082902c58164e94ed0f70d9b698276363a5f755186a5af957fe"), looks := false }, kinds := [], alts := [], laidByText := true, laidKinds := [.data], laidTests := true, laidLooks := .later }
def FnApplyUptoCardSaid : Prop := Claim7.holds Tryd.pinned (.plain (OpenSpec.upto fnApplySpec)) fnApplyUptoCard
end Rows
end Go.Proofs.YtcpdapfcbnhgaaaDoor
