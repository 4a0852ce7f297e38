/-
  DERIVED. GIVEN WITH THE SEED: THE PROGRAM's TIES (one call each: nine closed facts by the kernel) AND EACH ROW's TIE, after the 31st guide's Derived/Test/Toyas{Tie, Card}.lean. No idea stands in it: it is a product of the set-up. Laid BY PROGRAM, IN A SANDBOX (cutbox-door.mjs). By AI agents, Wed Nov 11 2026. No macro, syntax, notation, axiom, sorry.
-/
import Derived.Test.YtmcokdiopcpifaaDoorRows
import Derived.LaidByTextLater
import Derived.SevenTiedAt
import Derived.LaidSub
import Derived.LaidOnce
namespace Go.Proofs.YtmcokdiopcpifaaDoor
open Go
set_option maxRecDepth 100000
theorem seatTie1 : Tryd.prog.laidByTextLater [("loop.example/polarisedlight/impl.zero", Rows.laid_loop_example_polarisedlight_impl_zero), ("loop.example/polarisedlight/impl.one", Rows.laid_loop_example_polarisedlight_impl_one), ("loop.example/polarisedlight/impl.unit", Rows.laid_loop_example_polarisedlight_impl_unit), ("loop.example/polarisedlight/impl.turns", Rows.laid_loop_example_polarisedlight_impl_turns), ("loop.example/polarisedlight/impl.same", Rows.laid_loop_example_polarisedlight_impl_same)] [.data, .data, .data, .data, .data] true :=
  Program.laidByTextLater_by_one 43 8 13 (by kernel_rfl) (by kernel_rfl) (by kernel_rfl) (by kernel_rfl) (by kernel_rfl) (by kernel_rfl) (fun _ _ => by kernel_rfl)
theorem noOwnUnsafe : Tryd.pinned.checked.prog.headLifts.contains "ownunsafe" = false := by kernel_rfl
theorem tie : Tryd.prog.laidByTextLater [("loop.example/polarisedlight/impl.zero", Rows.laid_loop_example_polarisedlight_impl_zero)] [.data] true :=
  Program.laidByTextLater.sub seatTie1 ["loop.example/polarisedlight/impl.zero"] (by kernel_rfl) (by kernel_rfl)
theorem fnExactTableUnit_row_tie : Rows.fnExactTableUnitRow.laidByTextAt .later Tryd.pinned [.data] true :=
  OpenClaim.laidByTextAt_later rfl rfl tie noOwnUnsafe
theorem fnExactMatAlike_row_tie : Rows.fnExactMatAlikeRow.laidByTextAt .later Tryd.pinned [.data] true :=
  OpenClaim.laidByTextAt_later rfl rfl tie noOwnUnsafe
theorem fnJonesTimes_row_tie : Rows.fnJonesTimesRow.laidByTextAt .later Tryd.pinned [.data] true :=
  OpenClaim.laidByTextAt_later rfl rfl tie noOwnUnsafe
theorem fnJonesAlike_row_tie : Rows.fnJonesAlikeRow.laidByTextAt .later Tryd.pinned [.data] true :=
  OpenClaim.laidByTextAt_later rfl rfl tie noOwnUnsafe
theorem fnUnit_row_tie : Rows.fnUnitRow.laidByTextAt .later Tryd.pinned [.data] true :=
  OpenClaim.laidByTextAt_later rfl rfl tie noOwnUnsafe
theorem fnScale_row_tie : Rows.fnScaleRow.laidByTextAt .later Tryd.pinned [.data] true :=
  OpenClaim.laidByTextAt_later rfl rfl tie noOwnUnsafe
theorem fnMatAlike_row_tie : Rows.fnMatAlikeRow.laidByTextAt .later Tryd.pinned [.data] true :=
  OpenClaim.laidByTextAt_later rfl rfl tie noOwnUnsafe
theorem tie2 : Tryd.prog.laidByTextLater [("loop.example/polarisedlight/impl.zero", Rows.laid_loop_example_polarisedlight_impl_zero), ("loop.example/polarisedlight/impl.one", Rows.laid_loop_example_polarisedlight_impl_one)] [.data, .data] true :=
  Program.laidByTextLater.sub seatTie1 ["loop.example/polarisedlight/impl.zero", "loop.example/polarisedlight/impl.one"] (by kernel_rfl) (by kernel_rfl)
theorem fnExactTableFade_row_tie : Rows.fnExactTableFadeRow.laidByTextAt .later Tryd.pinned [.data, .data] true :=
  OpenClaim.laidByTextAt_later rfl rfl tie2 noOwnUnsafe
theorem tie3 : Tryd.prog.laidByTextLater [("loop.example/polarisedlight/impl.zero", Rows.laid_loop_example_polarisedlight_impl_zero), ("loop.example/polarisedlight/impl.unit", Rows.laid_loop_example_polarisedlight_impl_unit)] [.data, .data] true :=
  Program.laidByTextLater.sub seatTie1 ["loop.example/polarisedlight/impl.zero", "loop.example/polarisedlight/impl.unit"] (by kernel_rfl) (by kernel_rfl)
theorem fnExactStokesVector_row_tie : Rows.fnExactStokesVectorRow.laidByTextAt .later Tryd.pinned [.data, .data] true :=
  OpenClaim.laidByTextAt_later rfl rfl tie3 noOwnUnsafe
theorem fnVector_row_tie : Rows.fnVectorRow.laidByTextAt .later Tryd.pinned [.data, .data] true :=
  OpenClaim.laidByTextAt_later rfl rfl tie3 noOwnUnsafe
theorem fnPure_row_tie : Rows.fnPureRow.laidByTextAt .later Tryd.pinned [.data, .data] true :=
  OpenClaim.laidByTextAt_later rfl rfl tie3 noOwnUnsafe
theorem tie4 : Tryd.prog.laidByTextLater [("loop.example/polarisedlight/impl.zero", Rows.laid_loop_example_polarisedlight_impl_zero), ("loop.example/polarisedlight/impl.one", Rows.laid_loop_example_polarisedlight_impl_one), ("loop.example/polarisedlight/impl.turns", Rows.laid_loop_example_polarisedlight_impl_turns), ("loop.example/polarisedlight/impl.same", Rows.laid_loop_example_polarisedlight_impl_same)] [.data, .data, .data, .data] true :=
  Program.laidByTextLater.sub seatTie1 ["loop.example/polarisedlight/impl.zero", "loop.example/polarisedlight/impl.one", "loop.example/polarisedlight/impl.turns", "loop.example/polarisedlight/impl.same"] (by kernel_rfl) (by kernel_rfl)
theorem fnPlate_row_tie : Rows.fnPlateRow.laidByTextAt .later Tryd.pinned [.data, .data, .data, .data] true :=
  OpenClaim.laidByTextAt_later rfl rfl tie4 noOwnUnsafe
theorem fnExactTableUnitUpto_row_tie : Rows.fnExactTableUnitUptoRow.laidByTextAt .later Tryd.pinned [.data] true :=
  OpenClaim.laidByTextAt_later rfl rfl tie noOwnUnsafe
theorem fnExactTableFadeUpto_row_tie : Rows.fnExactTableFadeUptoRow.laidByTextAt .later Tryd.pinned [.data, .data] true :=
  OpenClaim.laidByTextAt_later rfl rfl tie2 noOwnUnsafe
theorem fnExactMatAlikeUpto_row_tie : Rows.fnExactMatAlikeUptoRow.laidByTextAt .later Tryd.pinned [.data] true :=
  OpenClaim.laidByTextAt_later rfl rfl tie noOwnUnsafe
theorem fnExactStokesVectorUpto_row_tie : Rows.fnExactStokesVectorUptoRow.laidByTextAt .later Tryd.pinned [.data, .data] true :=
  OpenClaim.laidByTextAt_later rfl rfl tie3 noOwnUnsafe
theorem fnJonesTimesUpto_row_tie : Rows.fnJonesTimesUptoRow.laidByTextAt .later Tryd.pinned [.data] true :=
  OpenClaim.laidByTextAt_later rfl rfl tie noOwnUnsafe
theorem fnJonesAlikeUpto_row_tie : Rows.fnJonesAlikeUptoRow.laidByTextAt .later Tryd.pinned [.data] true :=
  OpenClaim.laidByTextAt_later rfl rfl tie noOwnUnsafe
theorem fnVectorUpto_row_tie : Rows.fnVectorUptoRow.laidByTextAt .later Tryd.pinned [.data, .data] true :=
  OpenClaim.laidByTextAt_later rfl rfl tie3 noOwnUnsafe
theorem fnPureUpto_row_tie : Rows.fnPureUptoRow.laidByTextAt .later Tryd.pinned [.data, .data] true :=
  OpenClaim.laidByTextAt_later rfl rfl tie3 noOwnUnsafe
theorem fnUnitUpto_row_tie : Rows.fnUnitUptoRow.laidByTextAt .later Tryd.pinned [.data] true :=
  OpenClaim.laidByTextAt_later rfl rfl tie noOwnUnsafe
theorem fnPlateUpto_row_tie : Rows.fnPlateUptoRow.laidByTextAt .later Tryd.pinned [.data, .data, .data, .data] true :=
  OpenClaim.laidByTextAt_later rfl rfl tie4 noOwnUnsafe
theorem fnScaleUpto_row_tie : Rows.fnScaleUptoRow.laidByTextAt .later Tryd.pinned [.data] true :=
  OpenClaim.laidByTextAt_later rfl rfl tie noOwnUnsafe
theorem fnMatAlikeUpto_row_tie : Rows.fnMatAlikeUptoRow.laidByTextAt .later Tryd.pinned [.data] true :=
  OpenClaim.laidByTextAt_later rfl rfl tie noOwnUnsafe
end Go.Proofs.YtmcokdiopcpifaaDoor
