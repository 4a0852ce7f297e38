/-
  DERIVED. GIVEN WITH THE SEED: THE PROGRAM's TIES (one call each: nine closed facts by the kernel) AND EACH ROW's TIE, after the 31st guide's Derived/Test/Toyas{Tie, Card}.lean. No idea stands in it: it is a product of the set-up. Laid BY PROGRAM, IN A SANDBOX (cutbox-door.mjs). By AI agents, Wed Nov 11 2026. No macro, syntax, notation, axiom, sorry.
-/
import Derived.Test.YtmfiiambannecaaDoorRows
import Derived.LaidByTextLater
import Derived.SevenTiedAt
import Derived.LaidSub
import Derived.LaidOnce
namespace Go.Proofs.YtmfiiambannecaaDoor
open Go
set_option maxRecDepth 100000
theorem seatTie1 : Tryd.prog.laidByTextLater [("loop.example/polarisedlight/impl.zero", Rows.laid_loop_example_polarisedlight_impl_zero), ("loop.example/polarisedlight/impl.one", Rows.laid_loop_example_polarisedlight_impl_one), ("loop.example/polarisedlight/impl.unit", Rows.laid_loop_example_polarisedlight_impl_unit), ("loop.example/polarisedlight/impl.turns", Rows.laid_loop_example_polarisedlight_impl_turns), ("loop.example/polarisedlight/impl.same", Rows.laid_loop_example_polarisedlight_impl_same)] [.data, .data, .data, .data, .data] true :=
  Program.laidByTextLater_by_one 43 8 13 (by kernel_rfl) (by kernel_rfl) (by kernel_rfl) (by kernel_rfl) (by kernel_rfl) (by kernel_rfl) (fun _ _ => by kernel_rfl)
theorem noOwnUnsafe : Tryd.pinned.checked.prog.headLifts.contains "ownunsafe" = false := by kernel_rfl
theorem tie : Tryd.prog.laidByTextLater [("loop.example/polarisedlight/impl.same", Rows.laid_loop_example_polarisedlight_impl_same)] [.data] true :=
  Program.laidByTextLater.sub seatTie1 ["loop.example/polarisedlight/impl.same"] (by kernel_rfl) (by kernel_rfl)
theorem fnExactMatLossless_row_tie : Rows.fnExactMatLosslessRow.laidByTextAt .later Tryd.pinned [.data] true :=
  OpenClaim.laidByTextAt_later rfl rfl tie noOwnUnsafe
theorem tie2 : Tryd.prog.laidByTextLater [("loop.example/polarisedlight/impl.zero", Rows.laid_loop_example_polarisedlight_impl_zero), ("loop.example/polarisedlight/impl.one", Rows.laid_loop_example_polarisedlight_impl_one), ("loop.example/polarisedlight/impl.turns", Rows.laid_loop_example_polarisedlight_impl_turns)] [.data, .data, .data] true :=
  Program.laidByTextLater.sub seatTie1 ["loop.example/polarisedlight/impl.zero", "loop.example/polarisedlight/impl.one", "loop.example/polarisedlight/impl.turns"] (by kernel_rfl) (by kernel_rfl)
theorem fnExactMatPlate_row_tie : Rows.fnExactMatPlateRow.laidByTextAt .later Tryd.pinned [.data, .data, .data] true :=
  OpenClaim.laidByTextAt_later rfl rfl tie2 noOwnUnsafe
theorem tie3 : Tryd.prog.laidByTextLater [("loop.example/polarisedlight/impl.zero", Rows.laid_loop_example_polarisedlight_impl_zero), ("loop.example/polarisedlight/impl.unit", Rows.laid_loop_example_polarisedlight_impl_unit)] [.data, .data] true :=
  Program.laidByTextLater.sub seatTie1 ["loop.example/polarisedlight/impl.zero", "loop.example/polarisedlight/impl.unit"] (by kernel_rfl) (by kernel_rfl)
theorem fnExactStokesVector_row_tie : Rows.fnExactStokesVectorRow.laidByTextAt .later Tryd.pinned [.data, .data] true :=
  OpenClaim.laidByTextAt_later rfl rfl tie3 noOwnUnsafe
theorem fnExactMatLosslessUpto_row_tie : Rows.fnExactMatLosslessUptoRow.laidByTextAt .later Tryd.pinned [.data] true :=
  OpenClaim.laidByTextAt_later rfl rfl tie noOwnUnsafe
theorem fnExactMatPlateUpto_row_tie : Rows.fnExactMatPlateUptoRow.laidByTextAt .later Tryd.pinned [.data, .data, .data] true :=
  OpenClaim.laidByTextAt_later rfl rfl tie2 noOwnUnsafe
theorem fnExactStokesVectorUpto_row_tie : Rows.fnExactStokesVectorUptoRow.laidByTextAt .later Tryd.pinned [.data, .data] true :=
  OpenClaim.laidByTextAt_later rfl rfl tie3 noOwnUnsafe
end Go.Proofs.YtmfiiambannecaaDoor
