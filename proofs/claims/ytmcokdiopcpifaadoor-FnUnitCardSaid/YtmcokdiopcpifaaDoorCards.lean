/-
  DERIVED. GIVEN WITH THE SEED: THE CARDS: each row of YtmcokdiopcpifaaDoorRows.lean that lists a variable, with what it lists TIED to the program's text (the seventh form; the later family's looks); each row that meets fmt, with fmt's text TOLD by the authors' own Lean function (tested against real Go, not proved from fmt's source: count such statements apart). THE CARD IS WHAT COUNTS. Prove the row's statement (the work); the ties are given (YtmcokdiopcpifaaDoorTie.lean); close each card by the builder's one call (the guide's Derived/Test/ToyasCard.lean, 'card_holds'). Laid BY PROGRAM, IN A SANDBOX (cutbox-door.mjs). By AI agents, Wed Nov 11 2026. No macro, syntax, notation, axiom, sorry.
-/
import Derived.Test.YtmcokdiopcpifaaDoorRows
import GoSem.ClaimSeven
namespace Go.Proofs.YtmcokdiopcpifaaDoor
namespace Rows

/-- THE TIED CARD OF 'laws.FnExactTableUnit'. -/
def fnExactTableUnitCard : Claim7 := { stood := { row := fnExactTableUnitRow, standIns := [], harness := (true, "4641a63997bae2f3f605d4183781842987cd6e93f60671f0fe7f4fb0ecf64798"), looks := false }, kinds := [], alts := [], laidByText := true, laidKinds := [.data], laidTests := true, laidLooks := .later }
def FnExactTableUnitCardSaid : Prop := Claim7.holds Tryd.pinned (.plain (OpenSpec.ofChange fnExactTableUnitSpec)) fnExactTableUnitCard

/-- THE TIED CARD OF 'laws.FnExactTableFade'. -/
def fnExactTableFadeCard : Claim7 := { stood := { row := fnExactTableFadeRow, standIns := [], harness := (true, "4641a63997bae2f3f605d4183781842987cd6e93f60671f0fe7f4fb0ecf64798"), looks := false }, kinds := [], alts := [], laidByText := true, laidKinds := [.data, .data], laidTests := true, laidLooks := .later }
def FnExactTableFadeCardSaid : Prop := Claim7.holds Tryd.pinned (.plain (OpenSpec.ofChange fnExactTableFadeSpec)) fnExactTableFadeCard

/-- THE TIED CARD OF 'laws.FnExactMatAlike'. -/
def fnExactMatAlikeCard : Claim7 := { stood := { row := fnExactMatAlikeRow, standIns := [], harness := (true, "4641a63997bae2f3f605d4183781842987cd6e93f60671f0fe7f4fb0ecf64798"), looks := false }, kinds := [], alts := [], laidByText := true, laidKinds := [.data], laidTests := true, laidLooks := .later }
def FnExactMatAlikeCardSaid : Prop := Claim7.holds Tryd.pinned (.plain (OpenSpec.ofChange fnExactMatAlikeSpec)) fnExactMatAlikeCard

/-- THE TIED CARD OF 'laws.FnExactStokesVector'. -/
def fnExactStokesVectorCard : Claim7 := { stood := { row := fnExactStokesVectorRow, standIns := [], harness := (true, "4641a63997bae2f3f605d4183781842987cd6e93f60671f0fe7f4fb0ecf64798"), looks := false }, kinds := [], alts := [], laidByText := true, laidKinds := [.data, .data], laidTests := true, laidLooks := .later }
def FnExactStokesVectorCardSaid : Prop := Claim7.holds Tryd.pinned (.plain (OpenSpec.ofChange fnExactStokesVectorSpec)) fnExactStokesVectorCard

/-- THE TIED CARD OF 'laws.FnJonesTimes'. -/
def fnJonesTimesCard : Claim7 := { stood := { row := fnJonesTimesRow, standIns := [], harness := (true, "4641a63997bae2f3f605d4183781842987cd6e93f60671f0fe7f4fb0ecf64798"), looks := false }, kinds := [], alts := [], laidByText := true, laidKinds := [.data], laidTests := true, laidLooks := .later }
def FnJonesTimesCardSaid : Prop := Claim7.holds Tryd.pinned (.plain (OpenSpec.ofChange fnJonesTimesSpec)) fnJonesTimesCard

/-- THE TIED CARD OF 'laws.FnJonesAlike'. -/
def fnJonesAlikeCard : Claim7 := { stood := { row := fnJonesAlikeRow, standIns := [], harness := (true, "4641a63997bae2f3f605d4183781842987cd6e93f60671f0fe7f4fb0ecf64798"), looks := false }, kinds := [], alts := [], laidByText := true, laidKinds := [.data], laidTests := true, laidLooks := .later }
def FnJonesAlikeCardSaid : Prop := Claim7.holds Tryd.pinned (.plain (OpenSpec.ofChange fnJonesAlikeSpec)) fnJonesAlikeCard

/-- THE TIED CARD OF 'laws.FnVector'. -/
def fnVectorCard : Claim7 := { stood := { row := fnVectorRow, standIns := [], harness := (true, "4641a63997bae2f3f605d4183781842987cd6e93f60671f0fe7f4fb0ecf64798"), looks := false }, kinds := [], alts := [], laidByText := true, laidKinds := [.data, .data], laidTests := true, laidLooks := .later }
def FnVectorCardSaid : Prop := Claim7.holds Tryd.pinned (.plain (OpenSpec.ofChange fnVectorSpec)) fnVectorCard

/-- THE TIED CARD OF 'laws.FnPure'. -/
def fnPureCard : Claim7 := { stood := { row := fnPureRow, standIns := [], harness := (true, "4641a63997bae2f3f605d4183781842987cd6e93f60671f0fe7f4fb0ecf64798"), looks := false }, kinds := [], alts := [], laidByText := true, laidKinds := [.data, .data], laidTests := true, laidLooks := .later }
def FnPureCardSaid : Prop := Claim7.holds Tryd.pinned (.plain (OpenSpec.ofChange fnPureSpec)) fnPureCard

/-- THE TIED CARD OF 'laws.FnUnit'. -/
def fnUnitCard : Claim7 := { stood := { row := fnUnitRow, standIns := [], harness := (true, "4641a63997bae2f3f605d4183781842987cd6e93f60671f0fe7f4fb0ecf64798"), looks := false }, kinds := [], alts := [], laidByText := true, laidKinds := [.data], laidTests := true, laidLooks := .later }
def FnUnitCardSaid : Prop := Claim7.holds Tryd.pinned (.plain (OpenSpec.ofChange fnUnitSpec)) fnUnitCard

/-- THE TIED CARD OF 'laws.FnPlate'. -/
def fnPlateCard : Claim7 := { stood := { row := fnPlateRow, standIns := [], harness := (true, "4641a63997bae2f3f605d4183781842987cd6e93f60671f0fe7f4fb0ecf64798"), looks := false }, kinds := [], alts := [], laidByText := true, laidKinds := [.data, .data, .data, .data], laidTests := true, laidLooks := .later }
def FnPlateCardSaid : Prop := Claim7.holds Tryd.pinned (.plain (OpenSpec.ofChange fnPlateSpec)) fnPlateCard

/-- THE TIED CARD OF 'laws.FnScale'. -/
def fnScaleCard : Claim7 := { stood := { row := fnScaleRow, standIns := [], harness := (true, "4641a63997bae2f3f605d4183781842987cd6e93f60671f0fe7f4fb0ecf64798"), looks := false }, kinds := [], alts := [], laidByText := true, laidKinds := [.data], laidTests := true, laidLooks := .later }
def FnScaleCardSaid : Prop := Claim7.holds Tryd.pinned (.plain (OpenSpec.ofChange fnScaleSpec)) fnScaleCard

/-- THE TIED CARD OF 'laws.FnMatAlike'. -/
def fnMatAlikeCard : Claim7 := { stood := { row := fnMatAlikeRow, standIns := [], harness := (true, "4641a63997bae2f3f605d4183781842987cd6e93f60671f0fe7f4fb0ecf64798"), looks := false }, kinds := [], alts := [], laidByText := true, laidKinds := [.data], laidTests := true, laidLooks := .later }
def FnMatAlikeCardSaid : Prop := Claim7.holds Tryd.pinned (.plain (OpenSpec.ofChange fnMatAlikeSpec)) fnMatAlikeCard

/-- THE SECOND FORM's CARD OF 'laws.FnExactTableUnit'. -/
def fnExactTableUnitUptoCard : Claim7 := { stood := { row := fnExactTableUnitUptoRow, standIns := [], harness := (true, "4641a63997bae2f3f605d4183781842987cd6e93f60671f0fe7f4fb0ecf64798"), looks := false }, kinds := [], alts := [], laidByText := true, laidKinds := [.data], laidTests := true, laidLooks := .later }
def FnExactTableUnitUptoCardSaid : Prop := Claim7.holds Tryd.pinned (.plain (OpenSpec.upto fnExactTableUnitSpec)) fnExactTableUnitUptoCard

/-- THE SECOND FORM's CARD OF 'laws.FnExactTableFade'. -/
def fnExactTableFadeUptoCard : Claim7 := { stood := { row := fnExactTableFadeUptoRow, standIns := [], harness := (true, "4641a63997bae2f3f605d4183781842987cd6e93f60671f0fe7f4fb0ecf64798"), looks := false }, kinds := [], alts := [], laidByText := true, laidKinds := [.data, .data], laidTests := true, laidLooks := .later }
def FnExactTableFadeUptoCardSaid : Prop := Claim7.holds Tryd.pinned (.plain (OpenSpec.upto fnExactTableFadeSpec)) fnExactTableFadeUptoCard

/-- THE SECOND FORM's CARD OF 'laws.FnExactMatAlike'. -/
def fnExactMatAlikeUptoCard : Claim7 := { stood := { row := fnExactMatAlikeUptoRow, standIns := [], harness := (true, "4641a63997bae2f3f605d4183781842987cd6e93f60671f0fe7f4fb0ecf64798"), looks := false }, kinds := [], alts := [], laidByText := true, laidKinds := [.data], laidTests := true, laidLooks := .later }
def FnExactMatAlikeUptoCardSaid : Prop := Claim7.holds Tryd.pinned (.plain (OpenSpec.upto fnExactMatAlikeSpec)) fnExactMatAlikeUptoCard

/-- THE SECOND FORM's CARD OF 'laws.FnExactStokesVector'. -/
def fnExactStokesVectorUptoCard : Claim7 := { stood := { row := fnExactStokesVectorUptoRow, standIns := [], harness := (true, "4641a63997bae2f3f605d4183781842987cd6e93f60671f0fe7f4fb0ecf64798"), looks := false }, kinds := [], alts := [], laidByText := true, laidKinds := [.data, .data], laidTests := true, laidLooks := .later }
def FnExactStokesVectorUptoCardSaid : Prop := Claim7.holds Tryd.pinned (.plain (OpenSpec.upto fnExactStokesVectorSpec)) fnExactStokesVectorUptoCard

/-- THE SECOND FORM's CARD OF 'laws.FnJonesTimes'. -/
def fnJonesTimesUptoCard : Claim7 := { stood := { row := fnJonesTimesUptoRow, standIns := [], harness := (true, "4641a63997bae2f3f605d4183781842987cd6e93f60671f0fe7f4fb0ecf64798"), looks := false }, kinds := [], alts := [], laidByText := true, laidKinds := [.data], laidTests := true, laidLooks := .later }
def FnJonesTimesUptoCardSaid : Prop := Claim7.holds Tryd.pinned (.plain (OpenSpec.upto fnJonesTimesSpec)) fnJonesTimesUptoCard

/-- THE SECOND FORM's CARD OF 'laws.FnJonesAlike'. -/
def fnJonesAlikeUptoCard : Claim7 := { stood := { row := fnJonesAlikeUptoRow, standIns := [], harness := (true, "4641a63997bae2f3f605d4183781842987cd6e93f60671f0fe7f4fb0ecf64798"), looks := false }, kinds := [], alts := [], laidByText := true, laidKinds := [.data], laidTests := true, laidLooks := .later }
def FnJonesAlikeUptoCardSaid : Prop := Claim7.holds Tryd.pinned (.plain (OpenSpec.upto fnJonesAlikeSpec)) fnJonesAlikeUptoCard

/-- THE SECOND FORM's CARD OF 'laws.FnVector'. -/
def fnVectorUptoCard : Claim7 := { stood := { row := fnVectorUptoRow, standIns := [], harness := (true, "4641a63997bae2f3f605d4183781842987cd6e93f60671f0fe7f4fb0ecf64798"), looks := false }, kinds := [], alts := [], laidByText := true, laidKinds := [.data, .data], laidTests := true, laidLooks := .later }
def FnVectorUptoCardSaid : Prop := Claim7.holds Tryd.pinned (.plain (OpenSpec.upto fnVectorSpec)) fnVectorUptoCard

/-- THE SECOND FORM's CARD OF 'laws.FnPure'. -/
def fnPureUptoCard : Claim7 := { stood := { row := fnPureUptoRow, standIns := [], harness := (true, "4641a63997bae2f3f605d4183781842987cd6e93f60671f0fe7f4fb0ecf64798"), looks := false }, kinds := [], alts := [], laidByText := true, laidKinds := [.data, .data], laidTests := true, laidLooks := .later }
def FnPureUptoCardSaid : Prop := Claim7.holds Tryd.pinned (.plain (OpenSpec.upto fnPureSpec)) fnPureUptoCard

/-- THE SECOND FORM's CARD OF 'laws.FnUnit'. -/
def fnUnitUptoCard : Claim7 := { stood := { row := fnUnitUptoRow, standIns := [], harness := (true, "4641a63997bae2f3f605d4183781842987cd6e93f60671f0fe7f4fb0ecf64798"), looks := false }, kinds := [], alts := [], laidByText := true, laidKinds := [.data], laidTests := true, laidLooks := .later }
def FnUnitUptoCardSaid : Prop := Claim7.holds Tryd.pinned (.plain (OpenSpec.upto fnUnitSpec)) fnUnitUptoCard

/-- THE SECOND FORM's CARD OF 'laws.FnPlate'. -/
def fnPlateUptoCard : Claim7 := { stood := { row := fnPlateUptoRow, standIns := [], harness := (true, "4641a63997bae2f3f605d4183781842987cd6e93f60671f0fe7f4fb0ecf64798"), looks := false }, kinds := [], alts := [], laidByText := true, laidKinds := [.data, .data, .data, .data], laidTests := true, laidLooks := .later }
def FnPlateUptoCardSaid : Prop := Claim7.holds Tryd.pinned (.plain (OpenSpec.upto fnPlateSpec)) fnPlateUptoCard

/-- THE SECOND FORM's CARD OF 'laws.FnScale'. -/
def fnScaleUptoCard : Claim7 := { stood := { row := fnScaleUptoRow, standIns := [], harness := (true, "4641a63997bae2f3f605d4183781842987cd6e93f60671f0fe7f4fb0ecf64798"), looks := false }, kinds := [], alts := [], laidByText := true, laidKinds := [.data], laidTests := true, laidLooks := .later }
def FnScaleUptoCardSaid : Prop := Claim7.holds Tryd.pinned (.plain (OpenSpec.upto fnScaleSpec)) fnScaleUptoCard

/-- THE SECOND FORM's CARD OF 'laws.FnMatAlike'. -/
def fnMatAlikeUptoCard : Claim7 := { stood := { row := fnMatAlikeUptoRow, standIns := [], harness := (true, "4641a63997bae2f3f605d4183781842987cd6e93f60671f0fe7f4fb0ecf64798"), looks := false }, kinds := [], alts := [], laidByText := true, laidKinds := [.data], laidTests := true, laidLooks := .later }
def FnMatAlikeUptoCardSaid : Prop := Claim7.holds Tryd.pinned (.plain (OpenSpec.upto fnMatAlikeSpec)) fnMatAlikeUptoCard
end Rows
end Go.Proofs.YtmcokdiopcpifaaDoor
