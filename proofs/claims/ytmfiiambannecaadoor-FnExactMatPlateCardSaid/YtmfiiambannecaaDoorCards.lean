/-
  DERIVED. GIVEN WITH THE SEED: THE CARDS: each row of YtmfiiambannecaaDoorRows.lean that lists a variable, with what it lists TIED to the program's text (the seventh form; the later family's looks); each row that meets fmt, with fmt's text TOLD by the authors' own Lean function (tested against real Go, not proved from fmt's source: count such statements apart). THE CARD IS WHAT COUNTS. Prove the row's statement (the work); the ties are given (YtmfiiambannecaaDoorTie.lean); close each card by the builder's one call (the guide's Derived/Test/ToyasCard.lean, 'card_holds'). Laid BY PROGRAM, IN A SANDBOX (cutbox-door.mjs). By AI agents, Wed Nov 11 2026. No macro, syntax, notation, axiom, sorry.
-/
import Derived.Test.YtmfiiambannecaaDoorRows
import GoSem.ClaimSeven
namespace Go.Proofs.YtmfiiambannecaaDoor
namespace Rows

/-- THE TIED CARD OF 'laws.FnExactMatLossless'. -/
def fnExactMatLosslessCard : Claim7 := { stood := { row := fnExactMatLosslessRow, standIns := [], harness := (true, "97cf94f10c537c43f0a2fe34d9d4df8735f8a51c888db8468cbe64db7c82f4c0"), looks := false }, kinds := [], alts := [], laidByText := true, laidKinds := [.data], laidTests := true, laidLooks := .later }
def FnExactMatLosslessCardSaid : Prop := Claim7.holds Tryd.pinned (.plain (OpenSpec.ofChange fnExactMatLosslessSpec)) fnExactMatLosslessCard

/-- THE TIED CARD OF 'laws.FnExactMatPlate'. -/
def fnExactMatPlateCard : Claim7 := { stood := { row := fnExactMatPlateRow, standIns := [], harness := (true, "97cf94f10c537c43f0a2fe34d9d4df8735f8a51c888db8468cbe64db7c82f4c0"), looks := false }, kinds := [], alts := [], laidByText := true, laidKinds := [.data, .data, .data], laidTests := true, laidLooks := .later }
def FnExactMatPlateCardSaid : Prop := Claim7.holds Tryd.pinned (.plain (OpenSpec.ofChange fnExactMatPlateSpec)) fnExactMatPlateCard

/-- THE TIED CARD OF 'laws.FnExactStokesVector'. -/
def fnExactStokesVectorCard : Claim7 := { stood := { row := fnExactStokesVectorRow, standIns := [], harness := (true, "97cf94f10c537c43f0a2fe34d9d4df8735f8a51c888db8468cbe64db7c82f4c0"), looks := false }, kinds := [], alts := [], laidByText := true, laidKinds := [.data, .data], laidTests := true, laidLooks := .later }
def FnExactStokesVectorCardSaid : Prop := Claim7.holds Tryd.pinned (.plain (OpenSpec.ofChange fnExactStokesVectorSpec)) fnExactStokesVectorCard

/-- THE SECOND FORM's CARD OF 'laws.FnExactMatLossless'. -/
def fnExactMatLosslessUptoCard : Claim7 := { stood := { row := fnExactMatLosslessUptoRow, standIns := [], harness := (true, "97cf94f10c537c43f0a2fe34d9d4df8735f8a51c888db8468cbe64db7c82f4c0"), looks := false }, kinds := [], alts := [], laidByText := true, laidKinds := [.data], laidTests := true, laidLooks := .later }
def FnExactMatLosslessUptoCardSaid : Prop := Claim7.holds Tryd.pinned (.plain (OpenSpec.upto fnExactMatLosslessSpec)) fnExactMatLosslessUptoCard

/-- THE SECOND FORM's CARD OF 'laws.FnExactMatPlate'. -/
def fnExactMatPlateUptoCard : Claim7 := { stood := { row := fnExactMatPlateUptoRow, standIns := [], harness := (true, "97cf94f10c537c43f0a2fe34d9d4df8735f8a51c888db8468cbe64db7c82f4c0"), looks := false }, kinds := [], alts := [], laidByText := true, laidKinds := [.data, .data, .data], laidTests := true, laidLooks := .later }
def FnExactMatPlateUptoCardSaid : Prop := Claim7.holds Tryd.pinned (.plain (OpenSpec.upto fnExactMatPlateSpec)) fnExactMatPlateUptoCard

/-- THE SECOND FORM's CARD OF 'laws.FnExactStokesVector'. -/
def fnExactStokesVectorUptoCard : Claim7 := { stood := { row := fnExactStokesVectorUptoRow, standIns := [], harness := (true, "97cf94f10c537c43f0a2fe34d9d4df8735f8a51c888db8468cbe64db7c82f4c0"), looks := false }, kinds := [], alts := [], laidByText := true, laidKinds := [.data, .data], laidTests := true, laidLooks := .later }
def FnExactStokesVectorUptoCardSaid : Prop := Claim7.holds Tryd.pinned (.plain (OpenSpec.upto fnExactStokesVectorSpec)) fnExactStokesVectorUptoCard
end Rows
end Go.Proofs.YtmfiiambannecaaDoor
