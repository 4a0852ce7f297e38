/- The program's TableFade answers what the reference's answers, for all arguments. The row lists package-level variables, and the card ties them to the text of the program: the pruned copy of the project that the seat holds. -/
import Derived.Test.YtmcokdiopcpifaaDoorO
import Derived.Test.YtmcokdiopcpifaaDoorPV
import Derived.Test.YtmcokdiopcpifaaDoorTie
import Derived.Test.YtmcokdiopcpifaaDoorCards
import Derived.SevenTiedAt
import Derived.Test.YtmcokdiopcpifaaDoorTE
set_option maxRecDepth 100000
namespace Go.Proofs.YtmcokdiopcpifaaDoor
open Go.ChangeShapes Go.WideShapes Go.ChangeAt Go.RowKit Pol

set_option maxRecDepth 100000 in
set_option maxHeartbeats 8000000 in
theorem walk_FnExactTableFade (c : Fr) (w : World) (hg_one : Gat w 0 (ixF f1) 1) (hg_zero : Gat w 1 (ixF f0) 1) :
    Calls Tryd.prog 4 #[.agg #[.int .i64 c.re, .int .i64 c.im, .int .i64 c.den]] w fun e w' => e = .returned (.bool true) ∧ Below w.heap.size w w' := by
  have HG_one := Lib.hid hg_one; clear hg_one
  have HG_zero := Lib.hid hg_zero; clear hg_zero
  have HC : Hid ((w.alloc (.cells #[.int .i64 c.re, .int .i64 c.im, .int .i64 c.den] 31)).rangeAt (w.heap.size) 0 [.int .i64 c.re, .int .i64 c.im, .int .i64 c.den]) := by show World.rangeAt _ _ _ _; exact rangeAt_new _ _ _
  have HB : Hid (Below w.heap.size w (w.alloc (.cells #[.int .i64 c.re, .int .i64 c.im, .int .i64 c.den] 31))) := by show Below _ _ _; (repeat' first | exact Below.refl _ _ | apply bl_alloc | apply bl_drewN | apply bl_drew | refine bl_trans ?_ (by assumption) | refine bl_set ?_ (by first | omega | (simp <;> omega)) _)
  go_enter Tryd.func4, Tryd.ntmps4
  go_wp2_with (first | ((with_reducible refine wpList_load_mid ?kc11 31 ?kc1x ?kc12 (w.heap.size) 0 ?kc13 [.int .i64 c.re, .int .i64 c.im, .int .i64 c.den] ?kc1d ?kc14 ?kc15 ?kc16 ?kc17 ?kc18); (case kc12 => rfl); (case kc11 => rfl); (case kc13 => rfl); (case kc14 => (exact HC.out)); (case kc15 => exact Tryd.underlying31); (case kc16 => rfl); (case kc17 => kernel_rfl)))
  refine (toFrac_any c _).mono ?_
  rintro e w01 ⟨rfl, hb⟩
  have HC := Lib.hid (rangeAt_below HC.out hb (by simp))
  have HB := Lib.hid (show Below w.heap.size w w01 from HB.out.trans (hb.mono HB.out.size))
  have hz0 : w.heap.size + 1 ≤ w01.heap.size := by have := hb.size; simpa using this
  clear hb
  go_wp2_with fail
  refine (stfade_any c _).mono ?_
  rintro e w1 ⟨rfl, hb⟩
  have HB := Lib.hid (show Below w.heap.size w w1 from HB.out.trans (hb.mono HB.out.size))
  have HC := Lib.hid (rangeAt_below HC.out hb (by omega))
  have hz1 := hb.size
  clear hb
  have HD1 := Lib.hid (Room.new' (w := w1) (N := w1.heap.size) (n := 16) (cs := #[.int .i64 0, .int .i64 0, .int .i64 0, .int .i64 0, .int .i64 0, .int .i64 0, .int .i64 0, .int .i64 0, .int .i64 0, .int .i64 0, .int .i64 0, .int .i64 0, .int .i64 0, .int .i64 0, .int .i64 0, .int .i64 0, .int .i64 0, .int .i64 0, .int .i64 0, .int .i64 0, .int .i64 0, .int .i64 0, .int .i64 0, .int .i64 0, .int .i64 0, .int .i64 0, .int .i64 0, .int .i64 0, .int .i64 0, .int .i64 0, .int .i64 0, .int .i64 0, .int .i64 0, .int .i64 0, .int .i64 0, .int .i64 0, .int .i64 0, .int .i64 0, .int .i64 0, .int .i64 0, .int .i64 0, .int .i64 0, .int .i64 0, .int .i64 0, .int .i64 0, .int .i64 0, .int .i64 0, .int .i64 0]) (t := 26) rfl rfl)
  have HR1 : Hid (World.rangeAt ((w1.alloc (.cells #[.int .i64 0, .int .i64 0, .int .i64 0, .int .i64 0, .int .i64 0, .int .i64 0, .int .i64 0, .int .i64 0, .int .i64 0, .int .i64 0, .int .i64 0, .int .i64 0, .int .i64 0, .int .i64 0, .int .i64 0, .int .i64 0, .int .i64 0, .int .i64 0, .int .i64 0, .int .i64 0, .int .i64 0, .int .i64 0, .int .i64 0, .int .i64 0, .int .i64 0, .int .i64 0, .int .i64 0, .int .i64 0, .int .i64 0, .int .i64 0, .int .i64 0, .int .i64 0, .int .i64 0, .int .i64 0, .int .i64 0, .int .i64 0, .int .i64 0, .int .i64 0, .int .i64 0, .int .i64 0, .int .i64 0, .int .i64 0, .int .i64 0, .int .i64 0, .int .i64 0, .int .i64 0, .int .i64 0, .int .i64 0] 26)).setCells w1.heap.size 0 (cl (gFade c).1.get 16)) w1.heap.size 0 (cl (gFade c).1.get 16)) := by show World.rangeAt _ _ _ _; exact World.rangeAt_setCells_same _ _ _ _ (HD1.out.thereC (gFade c).1.get)
  have HB := Lib.hid (show Below w.heap.size w ((w1.alloc (.cells #[.int .i64 0, .int .i64 0, .int .i64 0, .int .i64 0, .int .i64 0, .int .i64 0, .int .i64 0, .int .i64 0, .int .i64 0, .int .i64 0, .int .i64 0, .int .i64 0, .int .i64 0, .int .i64 0, .int .i64 0, .int .i64 0, .int .i64 0, .int .i64 0, .int .i64 0, .int .i64 0, .int .i64 0, .int .i64 0, .int .i64 0, .int .i64 0, .int .i64 0, .int .i64 0, .int .i64 0, .int .i64 0, .int .i64 0, .int .i64 0, .int .i64 0, .int .i64 0, .int .i64 0, .int .i64 0, .int .i64 0, .int .i64 0, .int .i64 0, .int .i64 0, .int .i64 0, .int .i64 0, .int .i64 0, .int .i64 0, .int .i64 0, .int .i64 0, .int .i64 0, .int .i64 0, .int .i64 0, .int .i64 0] 26)).setCells w1.heap.size 0 (cl (gFade c).1.get 16)) from setCells_below _ _ _ (HB.out.alloc (by have := HB.out.size; omega) _) HB.out.size)
  have hs1 : ((w1.alloc (.cells #[.int .i64 0, .int .i64 0, .int .i64 0, .int .i64 0, .int .i64 0, .int .i64 0, .int .i64 0, .int .i64 0, .int .i64 0, .int .i64 0, .int .i64 0, .int .i64 0, .int .i64 0, .int .i64 0, .int .i64 0, .int .i64 0, .int .i64 0, .int .i64 0, .int .i64 0, .int .i64 0, .int .i64 0, .int .i64 0, .int .i64 0, .int .i64 0, .int .i64 0, .int .i64 0, .int .i64 0, .int .i64 0, .int .i64 0, .int .i64 0, .int .i64 0, .int .i64 0, .int .i64 0, .int .i64 0, .int .i64 0, .int .i64 0, .int .i64 0, .int .i64 0, .int .i64 0, .int .i64 0, .int .i64 0, .int .i64 0, .int .i64 0, .int .i64 0, .int .i64 0, .int .i64 0, .int .i64 0, .int .i64 0] 26)).setCells w1.heap.size 0 (cl (gFade c).1.get 16)).heap.size = w1.heap.size + 1 := by rw [setCells_size2]; simp
  obtain ⟨V, hV⟩ : ∃ V, V = (w1.alloc (.cells #[.int .i64 0, .int .i64 0, .int .i64 0, .int .i64 0, .int .i64 0, .int .i64 0, .int .i64 0, .int .i64 0, .int .i64 0, .int .i64 0, .int .i64 0, .int .i64 0, .int .i64 0, .int .i64 0, .int .i64 0, .int .i64 0, .int .i64 0, .int .i64 0, .int .i64 0, .int .i64 0, .int .i64 0, .int .i64 0, .int .i64 0, .int .i64 0, .int .i64 0, .int .i64 0, .int .i64 0, .int .i64 0, .int .i64 0, .int .i64 0, .int .i64 0, .int .i64 0, .int .i64 0, .int .i64 0, .int .i64 0, .int .i64 0, .int .i64 0, .int .i64 0, .int .i64 0, .int .i64 0, .int .i64 0, .int .i64 0, .int .i64 0, .int .i64 0, .int .i64 0, .int .i64 0, .int .i64 0, .int .i64 0] 26)).setCells w1.heap.size 0 (cl (gFade c).1.get 16) := ⟨_, rfl⟩
  have HC := Lib.hid (show World.rangeAt ((w1.alloc (.cells #[.int .i64 0, .int .i64 0, .int .i64 0, .int .i64 0, .int .i64 0, .int .i64 0, .int .i64 0, .int .i64 0, .int .i64 0, .int .i64 0, .int .i64 0, .int .i64 0, .int .i64 0, .int .i64 0, .int .i64 0, .int .i64 0, .int .i64 0, .int .i64 0, .int .i64 0, .int .i64 0, .int .i64 0, .int .i64 0, .int .i64 0, .int .i64 0, .int .i64 0, .int .i64 0, .int .i64 0, .int .i64 0, .int .i64 0, .int .i64 0, .int .i64 0, .int .i64 0, .int .i64 0, .int .i64 0, .int .i64 0, .int .i64 0, .int .i64 0, .int .i64 0, .int .i64 0, .int .i64 0, .int .i64 0, .int .i64 0, .int .i64 0, .int .i64 0, .int .i64 0, .int .i64 0, .int .i64 0, .int .i64 0] 26)).setCells w1.heap.size 0 (cl (gFade c).1.get 16)) w.heap.size 0 [.int .i64 c.re, .int .i64 c.im, .int .i64 c.den] from World.rangeAt_setCells_apart (World.rangeAt_alloc HC.out _) _ _ _ (Or.inl (by omega)))
  go_wp2_with (first | ((with_reducible refine wpList_store_mid ?kd1 26 ?kdx ?kdy ?kd2 (w1.heap.size) 0 (cl (gFade c).1.get 16).toArray ?kd3 ?kd4 ?kd5 ?kd6 ?kd7 ?kd8); (case kd2 => rfl); (case kd1 => rfl); (case kd3 => rfl); (case kd4 => rfl); (case kd5 => exact (HD1.out.thereC _)); (case kd6 => kernel_rfl); (case kd7 => exact (cl_one _ _))) | ((with_reducible refine wpList_load_mid ?ke1 31 ?kex ?ke2 (w.heap.size) 0 ?ke3 [.int .i64 c.re, .int .i64 c.im, .int .i64 c.den] ?ked ?ke4 ?ke5 ?ke6 ?ke7 ?ke8); (case ke2 => rfl); (case ke1 => rfl); (case ke3 => rfl); (case ke4 => (exact HC.out)); (case ke5 => exact Tryd.underlying31); (case ke6 => rfl); (case ke7 => kernel_rfl)))
  rw [← hV] at HR1 HB hs1 HC
  rw [← hV]
  clear hV HD1
  refine (toFrac_any c _).mono ?_
  rintro e w02 ⟨rfl, hb⟩
  have hz2 := hb.size
  have HR1 := Lib.hid (rangeAt_below HR1.out hb (by omega))
  have HB := Lib.hid (show Below w.heap.size w w02 from HB.out.trans (hb.mono HB.out.size))
  clear hb
  go_wp2_with fail
  refine (itfade_any c _ (HG_one.out.below HB.out) (HG_zero.out.below HB.out)).mono ?_
  rintro e w2 ⟨rfl, hb⟩
  have hz3 := hb.size
  have HR1 := Lib.hid (rangeAt_below HR1.out hb (by omega))
  have HB := Lib.hid (show Below w.heap.size w w2 from HB.out.trans (hb.mono HB.out.size))
  clear hb
  have HD2 := Lib.hid (Room.new' (w := w2) (N := w2.heap.size) (n := 16) (cs := #[.int .i64 0, .int .i64 0, .int .i64 0, .int .i64 0, .int .i64 0, .int .i64 0, .int .i64 0, .int .i64 0, .int .i64 0, .int .i64 0, .int .i64 0, .int .i64 0, .int .i64 0, .int .i64 0, .int .i64 0, .int .i64 0, .int .i64 0, .int .i64 0, .int .i64 0, .int .i64 0, .int .i64 0, .int .i64 0, .int .i64 0, .int .i64 0, .int .i64 0, .int .i64 0, .int .i64 0, .int .i64 0, .int .i64 0, .int .i64 0, .int .i64 0, .int .i64 0, .int .i64 0, .int .i64 0, .int .i64 0, .int .i64 0, .int .i64 0, .int .i64 0, .int .i64 0, .int .i64 0, .int .i64 0, .int .i64 0, .int .i64 0, .int .i64 0, .int .i64 0, .int .i64 0, .int .i64 0, .int .i64 0]) (t := 26) rfl rfl)
  have HR2 : Hid (World.rangeAt ((w2.alloc (.cells #[.int .i64 0, .int .i64 0, .int .i64 0, .int .i64 0, .int .i64 0, .int .i64 0, .int .i64 0, .int .i64 0, .int .i64 0, .int .i64 0, .int .i64 0, .int .i64 0, .int .i64 0, .int .i64 0, .int .i64 0, .int .i64 0, .int .i64 0, .int .i64 0, .int .i64 0, .int .i64 0, .int .i64 0, .int .i64 0, .int .i64 0, .int .i64 0, .int .i64 0, .int .i64 0, .int .i64 0, .int .i64 0, .int .i64 0, .int .i64 0, .int .i64 0, .int .i64 0, .int .i64 0, .int .i64 0, .int .i64 0, .int .i64 0, .int .i64 0, .int .i64 0, .int .i64 0, .int .i64 0, .int .i64 0, .int .i64 0, .int .i64 0, .int .i64 0, .int .i64 0, .int .i64 0, .int .i64 0, .int .i64 0] 26)).setCells w2.heap.size 0 (cl (gFade c).1.get 16)) w2.heap.size 0 (cl (gFade c).1.get 16)) := by show World.rangeAt _ _ _ _; exact World.rangeAt_setCells_same _ _ _ _ (HD2.out.thereC (gFade c).1.get)
  have HR1 : Hid (World.rangeAt ((w2.alloc (.cells #[.int .i64 0, .int .i64 0, .int .i64 0, .int .i64 0, .int .i64 0, .int .i64 0, .int .i64 0, .int .i64 0, .int .i64 0, .int .i64 0, .int .i64 0, .int .i64 0, .int .i64 0, .int .i64 0, .int .i64 0, .int .i64 0, .int .i64 0, .int .i64 0, .int .i64 0, .int .i64 0, .int .i64 0, .int .i64 0, .int .i64 0, .int .i64 0, .int .i64 0, .int .i64 0, .int .i64 0, .int .i64 0, .int .i64 0, .int .i64 0, .int .i64 0, .int .i64 0, .int .i64 0, .int .i64 0, .int .i64 0, .int .i64 0, .int .i64 0, .int .i64 0, .int .i64 0, .int .i64 0, .int .i64 0, .int .i64 0, .int .i64 0, .int .i64 0, .int .i64 0, .int .i64 0, .int .i64 0, .int .i64 0] 26)).setCells w2.heap.size 0 (cl (gFade c).1.get 16)) w1.heap.size 0 (cl (gFade c).1.get 16)) := by show World.rangeAt _ _ _ _; exact World.rangeAt_setCells_apart (World.rangeAt_alloc HR1.out _) _ _ _ (Or.inl (by omega))
  have HB := Lib.hid (show Below w.heap.size w ((w2.alloc (.cells #[.int .i64 0, .int .i64 0, .int .i64 0, .int .i64 0, .int .i64 0, .int .i64 0, .int .i64 0, .int .i64 0, .int .i64 0, .int .i64 0, .int .i64 0, .int .i64 0, .int .i64 0, .int .i64 0, .int .i64 0, .int .i64 0, .int .i64 0, .int .i64 0, .int .i64 0, .int .i64 0, .int .i64 0, .int .i64 0, .int .i64 0, .int .i64 0, .int .i64 0, .int .i64 0, .int .i64 0, .int .i64 0, .int .i64 0, .int .i64 0, .int .i64 0, .int .i64 0, .int .i64 0, .int .i64 0, .int .i64 0, .int .i64 0, .int .i64 0, .int .i64 0, .int .i64 0, .int .i64 0, .int .i64 0, .int .i64 0, .int .i64 0, .int .i64 0, .int .i64 0, .int .i64 0, .int .i64 0, .int .i64 0] 26)).setCells w2.heap.size 0 (cl (gFade c).1.get 16)) from setCells_below _ _ _ (HB.out.alloc (by have := HB.out.size; omega) _) HB.out.size)
  go_wp2_with (first
    | ((with_reducible refine wpList_store_mid ?kf1 26 ?kfx ?kfy ?kf2 (w2.heap.size) 0 (cl (gFade c).1.get 16).toArray ?kf3 ?kf4 ?kf5 ?kf6 ?kf7 ?kf8); (case kf2 => rfl); (case kf1 => rfl); (case kf3 => rfl); (case kf4 => rfl); (case kf5 => exact (HD2.out.thereC _)); (case kf6 => kernel_rfl); (case kf7 => exact (cl_one _ _)))
    | ((with_reducible refine wpList_load_mid ?kg1 26 ?kgx ?kg2 (w2.heap.size) 0 ?kg3 (cl (gFade c).1.get 16) ?kgd ?kg4 ?kg5 ?kg6 ?kg7 ?kg8); (case kg2 => rfl); (case kg1 => rfl); (case kg3 => rfl); (case kg4 => exact (HR2.out)); (case kg5 => exact Tryd.underlying26); (case kg6 => rfl); (case kg7 => kernel_rfl))
    | ((with_reducible refine wpList_load_mid ?kh1 26 ?khx ?kh2 (w1.heap.size) 0 ?kh3 (cl (gFade c).1.get 16) ?khd ?kh4 ?kh5 ?kh6 ?kh7 ?kh8); (case kh2 => rfl); (case kh1 => rfl); (case kh3 => rfl); (case kh4 => exact (HR1.out)); (case kh5 => exact Tryd.underlying26); (case kh6 => rfl); (case kh7 => kernel_rfl)))
  refine (eqTable_cc (gFade c).1 _).mono ?_
  rintro e w3 ⟨rfl, hb⟩
  have HB := Lib.hid (show Below w.heap.size w w3 from HB.out.trans (hb.mono HB.out.size))
  clear hb HR1 HR2 HD2
  generalize (gFade c).2 = bb
  cases bb
  all_goals (go_wp2; go_ret; exact ⟨rfl, HB.out⟩)

set_option maxRecDepth 100000 in
theorem door_FnExactTableFade (os : Os) (args : Array Value) : laidMetH Tryd.prog Rows.fnExactTableFadeRow.laid ((World.doorLaid Tryd.prog 43 os).forCall (fun _ _ => 0) ⟨#[], args, []⟩).memory :=
  laidMetH_of_parts3 (fuel := 8) (laidMet_of_run' 8 (by kernel_rfl) (by kernel_rfl)) (by kernel_rfl) (by kernel_rfl)
set_option maxRecDepth 100000 in
theorem lifted_FnExactTableFade (os : Os) (started : os.Started) (H : Type) (enc : TypeId × Value → H) :
    ReturnsInHanded {} Tryd.checked os 4 .any (fun w args => (Rows.fnExactTableFadeSpec.pre enc Tryd.prog Tryd.f4 [] false w args ∧ laidMetH Tryd.prog Rows.fnExactTableFadeRow.laid w) ∧ sizedMet enc Tryd.prog Tryd.f4 (OpenSpec.ofChange Rows.fnExactTableFadeSpec) false w args) (Rows.fnExactTableFadeSpec.post enc Tryd.prog Tryd.f4 false true false false) := by
  refine returnsInHanded_of_change_and (C := Tryd.checked) (X := fun w _ => laidMetH Tryd.prog Rows.fnExactTableFadeRow.laid w) (fun _ _ _ hh h => h.of_heap hh) Tryd.own started (by kernel_rfl) Tryd.func4
    (ChangeSpec.witness_shaped (enc := enc) (C := Tryd.checked) (os := os) (X := fun w _ => laidMetH Tryd.prog Rows.fnExactTableFadeRow.laid w) false (World.doorLaid Tryd.prog 43 os) #[.agg #[.int .i64 0, .int .i64 0, .int .i64 0]] 8 rfl (World.shaped_of_RefB (by kernel_rfl) (by kernel_rfl)) (by kernel_rfl) (by kernel_rfl) (by kernel_rfl) (door_FnExactTableFade os _)) ?_
  intro W base args ds gs before hval0 hW _ _ hL _
  have hval : ∀ (j : Nat) t v, Tryd.f4.params[j]? = some t → args[j]? = some v → Value.okWide Tryd.prog W .any base t v := hval0
  have hW' := hW
  obtain ⟨p, q, hA0, hV, rfl, hfz, hnd⟩ := hW
  have hA : DataW.TrodAll enc Tryd.prog W 0 (fun _ => true) true Tryd.f4.params.toList args.toList ds p := hA0
  rw [Tryd.params4] at hA hval
  obtain ⟨v0, d0, rfl, rfl, h0⟩ := trodAll_one hA
  obtain ⟨g0, g1, rfl⟩ := len2 (vars_len hV)
  have hG_one := gat_one hL (by decide) (by simp [Rows.fnExactTableFadeRow, Rows.laid_loop_example_polarisedlight_impl_one])
  have hG_zero := gat_zero hL (by decide) (by simp [Rows.fnExactTableFadeRow, Rows.laid_loop_example_polarisedlight_impl_zero])
  obtain ⟨c, rfl⟩ := open_fr (hval 0 31 v0 rfl rfl)
  clear hA0 hval0
  have hlt : ∀ x ∈ p, x.block < W.heap.size := fun x hx => by simpa using hW'.lt x (List.mem_append_left _ hx)
  refine (walk_FnExactTableFade c W hG_one hG_zero).mono fun e W' ⟨he, hb⟩ => ?_
  subst he
  refine ⟨_, rfl, _, _, _, [], p, q, hW', trodAll_mk1 (shut_bool Tryd.underlying4 _), trodAll_mk1 (Below.trod Tryd.laidOut (by kernel_rfl) (of_decide_eq_true (by kernel_rfl)) h0 hb (fun x hx => hlt x (by simp [hx]))), Below.trodVars Tryd.laidOut hb (by kernel_rfl) hV, hb.frame _, fun h => by cases h⟩
theorem said_FnExactTableFade : Rows.FnExactTableFadeSaid :=
  OpenClaim.holds_of_wide 4 Tryd.f4 rfl rfl rfl rfl rfl rfl rfl ⟨rfl, rfl, rfl, rfl, rfl⟩ rfl rfl rfl rfl rfl (by kernel_rfl) Tryd.func4 (by kernel_rfl)
    (of_decide_eq_true (by kernel_rfl)) (by unfold Func.isWrapper; first | (rw [if_pos (by decide +kernel)]; kernel_rfl) | (rw [if_neg (by decide +kernel)]; exact ⟨rfl, rfl⟩))
    (fun os started H enc _ => lifted_FnExactTableFade os started H enc)
set_option maxRecDepth 100000 in
/-- THE STATEMENT: THE CARD. -/
theorem holds_FnExactTableFade : Rows.FnExactTableFadeCardSaid :=
  Claim7.holds_tied_plain_at .later [] [.data, .data] true (true, "4641a63997bae2f3f605d4183781842987cd6e93f60671f0fe7f4fb0ecf64798") false
    said_FnExactTableFade (fun _ h => by cases h) (by kernel_rfl) (fun _ h => by cases h) fnExactTableFade_row_tie rfl ⟨rfl, rfl⟩ (by kernel_rfl) rfl
    (fun f fn hf hfn => by
      obtain rfl : f = 4 := Option.some.inj ((show Tryd.prog.funcNamed "loop.example/polarisedlight/laws.FnExactTableFade" = some 4 by kernel_rfl).symm.trans hf) |>.symm
      obtain rfl : fn = Tryd.f4 := (Option.some.inj (Tryd.func4.symm.trans hfn)).symm
      exact ⟨by kernel_rfl, fun j t ht => by
        rw [Tryd.params4] at ht
        have hm : t ∈ [31] := by simpa using Array.mem_of_getElem? ht
        have hall : ([31].all fun u => !Tryd.prog.wantsStandIn u) = true := by kernel_rfl
        exact (show Tryd.prog.wantsStandIn t = false by simpa using List.all_eq_true.1 hall t hm)⟩)
    (by kernel_rfl)
end Go.Proofs.YtmcokdiopcpifaaDoor
