/- The program's TableUnit answers what the reference's answers, for all arguments. The row lists package-level variables, and the card ties them to the text of the program: the pruned copy of the project that the seat holds. -/
import Derived.Test.YtmcokdiopcpifaaDoorO
import Derived.Test.YtmcokdiopcpifaaDoorPV
import Derived.Test.YtmcokdiopcpifaaDoorTie
import Derived.Test.YtmcokdiopcpifaaDoorCards
import Derived.SevenTiedAt
import Derived.Test.YtmcokdiopcpifaaDoorTE
set_option maxRecDepth 100000
namespace Go.Proofs.YtmcokdiopcpifaaDoor
open Go.ChangeShapes Go.WideShapes Go.ChangeAt Go.RowKit Pol

set_option maxRecDepth 100000 in
set_option maxHeartbeats 8000000 in
theorem walk_FnExactTableUnit (n : Int) (_wn : (Lit.int .i64 n).wf = true) (w : World) (hg_zero : Gat w 1 (ixF f0) 1) :
    Calls Tryd.prog 3 #[.int .i64 n] w fun e w' => e = .returned (.bool true) ∧ Below w.heap.size w w' := by
  have HG_zero := Lib.hid hg_zero; clear hg_zero
  have HB : Hid (Below w.heap.size w w) := Below.refl _ _
  go_enter Tryd.func3, Tryd.ntmps3
  go_wp2_with fail
  refine (stunit_any n _).mono ?_
  rintro e w1 ⟨rfl, hb⟩
  have HB := Lib.hid (show Below w.heap.size w w1 from HB.out.trans (hb.mono HB.out.size))
  have hz1 := hb.size
  clear hb
  have HD1 := Lib.hid (Room.new' (w := w1) (N := w1.heap.size) (n := 16) (cs := #[.int .i64 0, .int .i64 0, .int .i64 0, .int .i64 0, .int .i64 0, .int .i64 0, .int .i64 0, .int .i64 0, .int .i64 0, .int .i64 0, .int .i64 0, .int .i64 0, .int .i64 0, .int .i64 0, .int .i64 0, .int .i64 0, .int .i64 0, .int .i64 0, .int .i64 0, .int .i64 0, .int .i64 0, .int .i64 0, .int .i64 0, .int .i64 0, .int .i64 0, .int .i64 0, .int .i64 0, .int .i64 0, .int .i64 0, .int .i64 0, .int .i64 0, .int .i64 0, .int .i64 0, .int .i64 0, .int .i64 0, .int .i64 0, .int .i64 0, .int .i64 0, .int .i64 0, .int .i64 0, .int .i64 0, .int .i64 0, .int .i64 0, .int .i64 0, .int .i64 0, .int .i64 0, .int .i64 0, .int .i64 0]) (t := 26) rfl rfl)
  have HR1 : Hid (World.rangeAt ((w1.alloc (.cells #[.int .i64 0, .int .i64 0, .int .i64 0, .int .i64 0, .int .i64 0, .int .i64 0, .int .i64 0, .int .i64 0, .int .i64 0, .int .i64 0, .int .i64 0, .int .i64 0, .int .i64 0, .int .i64 0, .int .i64 0, .int .i64 0, .int .i64 0, .int .i64 0, .int .i64 0, .int .i64 0, .int .i64 0, .int .i64 0, .int .i64 0, .int .i64 0, .int .i64 0, .int .i64 0, .int .i64 0, .int .i64 0, .int .i64 0, .int .i64 0, .int .i64 0, .int .i64 0, .int .i64 0, .int .i64 0, .int .i64 0, .int .i64 0, .int .i64 0, .int .i64 0, .int .i64 0, .int .i64 0, .int .i64 0, .int .i64 0, .int .i64 0, .int .i64 0, .int .i64 0, .int .i64 0, .int .i64 0, .int .i64 0] 26)).setCells w1.heap.size 0 (cl (gUnit n).1.get 16)) w1.heap.size 0 (cl (gUnit n).1.get 16)) := by show World.rangeAt _ _ _ _; exact World.rangeAt_setCells_same _ _ _ _ (HD1.out.thereC (gUnit n).1.get)
  have HB := Lib.hid (show Below w.heap.size w ((w1.alloc (.cells #[.int .i64 0, .int .i64 0, .int .i64 0, .int .i64 0, .int .i64 0, .int .i64 0, .int .i64 0, .int .i64 0, .int .i64 0, .int .i64 0, .int .i64 0, .int .i64 0, .int .i64 0, .int .i64 0, .int .i64 0, .int .i64 0, .int .i64 0, .int .i64 0, .int .i64 0, .int .i64 0, .int .i64 0, .int .i64 0, .int .i64 0, .int .i64 0, .int .i64 0, .int .i64 0, .int .i64 0, .int .i64 0, .int .i64 0, .int .i64 0, .int .i64 0, .int .i64 0, .int .i64 0, .int .i64 0, .int .i64 0, .int .i64 0, .int .i64 0, .int .i64 0, .int .i64 0, .int .i64 0, .int .i64 0, .int .i64 0, .int .i64 0, .int .i64 0, .int .i64 0, .int .i64 0, .int .i64 0, .int .i64 0] 26)).setCells w1.heap.size 0 (cl (gUnit n).1.get 16)) from setCells_below _ _ _ (HB.out.alloc (by have := HB.out.size; omega) _) HB.out.size)
  have hs1 : ((w1.alloc (.cells #[.int .i64 0, .int .i64 0, .int .i64 0, .int .i64 0, .int .i64 0, .int .i64 0, .int .i64 0, .int .i64 0, .int .i64 0, .int .i64 0, .int .i64 0, .int .i64 0, .int .i64 0, .int .i64 0, .int .i64 0, .int .i64 0, .int .i64 0, .int .i64 0, .int .i64 0, .int .i64 0, .int .i64 0, .int .i64 0, .int .i64 0, .int .i64 0, .int .i64 0, .int .i64 0, .int .i64 0, .int .i64 0, .int .i64 0, .int .i64 0, .int .i64 0, .int .i64 0, .int .i64 0, .int .i64 0, .int .i64 0, .int .i64 0, .int .i64 0, .int .i64 0, .int .i64 0, .int .i64 0, .int .i64 0, .int .i64 0, .int .i64 0, .int .i64 0, .int .i64 0, .int .i64 0, .int .i64 0, .int .i64 0] 26)).setCells w1.heap.size 0 (cl (gUnit n).1.get 16)).heap.size = w1.heap.size + 1 := by rw [setCells_size2]; simp
  obtain ⟨V, hV⟩ : ∃ V, V = (w1.alloc (.cells #[.int .i64 0, .int .i64 0, .int .i64 0, .int .i64 0, .int .i64 0, .int .i64 0, .int .i64 0, .int .i64 0, .int .i64 0, .int .i64 0, .int .i64 0, .int .i64 0, .int .i64 0, .int .i64 0, .int .i64 0, .int .i64 0, .int .i64 0, .int .i64 0, .int .i64 0, .int .i64 0, .int .i64 0, .int .i64 0, .int .i64 0, .int .i64 0, .int .i64 0, .int .i64 0, .int .i64 0, .int .i64 0, .int .i64 0, .int .i64 0, .int .i64 0, .int .i64 0, .int .i64 0, .int .i64 0, .int .i64 0, .int .i64 0, .int .i64 0, .int .i64 0, .int .i64 0, .int .i64 0, .int .i64 0, .int .i64 0, .int .i64 0, .int .i64 0, .int .i64 0, .int .i64 0, .int .i64 0, .int .i64 0] 26)).setCells w1.heap.size 0 (cl (gUnit n).1.get 16) := ⟨_, rfl⟩
  go_wp2_with (first | ((with_reducible refine wpList_store_mid ?kd1 26 ?kdx ?kdy ?kd2 (w1.heap.size) 0 (cl (gUnit n).1.get 16).toArray ?kd3 ?kd4 ?kd5 ?kd6 ?kd7 ?kd8); (case kd2 => rfl); (case kd1 => rfl); (case kd3 => rfl); (case kd4 => rfl); (case kd5 => exact (HD1.out.thereC _)); (case kd6 => kernel_rfl); (case kd7 => exact (cl_one _ _))))
  rw [← hV] at HR1 HB hs1
  rw [← hV]
  clear hV HD1
  refine (itunit_any n _ (HG_zero.out.below HB.out)).mono ?_
  rintro e w2 ⟨rfl, hb⟩
  have hz3 := hb.size
  have HR1 := Lib.hid (rangeAt_below HR1.out hb (by omega))
  have HB := Lib.hid (show Below w.heap.size w w2 from HB.out.trans (hb.mono HB.out.size))
  clear hb
  have HD2 := Lib.hid (Room.new' (w := w2) (N := w2.heap.size) (n := 16) (cs := #[.int .i64 0, .int .i64 0, .int .i64 0, .int .i64 0, .int .i64 0, .int .i64 0, .int .i64 0, .int .i64 0, .int .i64 0, .int .i64 0, .int .i64 0, .int .i64 0, .int .i64 0, .int .i64 0, .int .i64 0, .int .i64 0, .int .i64 0, .int .i64 0, .int .i64 0, .int .i64 0, .int .i64 0, .int .i64 0, .int .i64 0, .int .i64 0, .int .i64 0, .int .i64 0, .int .i64 0, .int .i64 0, .int .i64 0, .int .i64 0, .int .i64 0, .int .i64 0, .int .i64 0, .int .i64 0, .int .i64 0, .int .i64 0, .int .i64 0, .int .i64 0, .int .i64 0, .int .i64 0, .int .i64 0, .int .i64 0, .int .i64 0, .int .i64 0, .int .i64 0, .int .i64 0, .int .i64 0, .int .i64 0]) (t := 26) rfl rfl)
  have HR2 : Hid (World.rangeAt ((w2.alloc (.cells #[.int .i64 0, .int .i64 0, .int .i64 0, .int .i64 0, .int .i64 0, .int .i64 0, .int .i64 0, .int .i64 0, .int .i64 0, .int .i64 0, .int .i64 0, .int .i64 0, .int .i64 0, .int .i64 0, .int .i64 0, .int .i64 0, .int .i64 0, .int .i64 0, .int .i64 0, .int .i64 0, .int .i64 0, .int .i64 0, .int .i64 0, .int .i64 0, .int .i64 0, .int .i64 0, .int .i64 0, .int .i64 0, .int .i64 0, .int .i64 0, .int .i64 0, .int .i64 0, .int .i64 0, .int .i64 0, .int .i64 0, .int .i64 0, .int .i64 0, .int .i64 0, .int .i64 0, .int .i64 0, .int .i64 0, .int .i64 0, .int .i64 0, .int .i64 0, .int .i64 0, .int .i64 0, .int .i64 0, .int .i64 0] 26)).setCells w2.heap.size 0 (cl (gUnit n).1.get 16)) w2.heap.size 0 (cl (gUnit n).1.get 16)) := by show World.rangeAt _ _ _ _; exact World.rangeAt_setCells_same _ _ _ _ (HD2.out.thereC (gUnit n).1.get)
  have HR1 : Hid (World.rangeAt ((w2.alloc (.cells #[.int .i64 0, .int .i64 0, .int .i64 0, .int .i64 0, .int .i64 0, .int .i64 0, .int .i64 0, .int .i64 0, .int .i64 0, .int .i64 0, .int .i64 0, .int .i64 0, .int .i64 0, .int .i64 0, .int .i64 0, .int .i64 0, .int .i64 0, .int .i64 0, .int .i64 0, .int .i64 0, .int .i64 0, .int .i64 0, .int .i64 0, .int .i64 0, .int .i64 0, .int .i64 0, .int .i64 0, .int .i64 0, .int .i64 0, .int .i64 0, .int .i64 0, .int .i64 0, .int .i64 0, .int .i64 0, .int .i64 0, .int .i64 0, .int .i64 0, .int .i64 0, .int .i64 0, .int .i64 0, .int .i64 0, .int .i64 0, .int .i64 0, .int .i64 0, .int .i64 0, .int .i64 0, .int .i64 0, .int .i64 0] 26)).setCells w2.heap.size 0 (cl (gUnit n).1.get 16)) w1.heap.size 0 (cl (gUnit n).1.get 16)) := by show World.rangeAt _ _ _ _; exact World.rangeAt_setCells_apart (World.rangeAt_alloc HR1.out _) _ _ _ (Or.inl (by omega))
  have HB := Lib.hid (show Below w.heap.size w ((w2.alloc (.cells #[.int .i64 0, .int .i64 0, .int .i64 0, .int .i64 0, .int .i64 0, .int .i64 0, .int .i64 0, .int .i64 0, .int .i64 0, .int .i64 0, .int .i64 0, .int .i64 0, .int .i64 0, .int .i64 0, .int .i64 0, .int .i64 0, .int .i64 0, .int .i64 0, .int .i64 0, .int .i64 0, .int .i64 0, .int .i64 0, .int .i64 0, .int .i64 0, .int .i64 0, .int .i64 0, .int .i64 0, .int .i64 0, .int .i64 0, .int .i64 0, .int .i64 0, .int .i64 0, .int .i64 0, .int .i64 0, .int .i64 0, .int .i64 0, .int .i64 0, .int .i64 0, .int .i64 0, .int .i64 0, .int .i64 0, .int .i64 0, .int .i64 0, .int .i64 0, .int .i64 0, .int .i64 0, .int .i64 0, .int .i64 0] 26)).setCells w2.heap.size 0 (cl (gUnit n).1.get 16)) from setCells_below _ _ _ (HB.out.alloc (by have := HB.out.size; omega) _) HB.out.size)
  go_wp2_with (first
    | ((with_reducible refine wpList_store_mid ?kf1 26 ?kfx ?kfy ?kf2 (w2.heap.size) 0 (cl (gUnit n).1.get 16).toArray ?kf3 ?kf4 ?kf5 ?kf6 ?kf7 ?kf8); (case kf2 => rfl); (case kf1 => rfl); (case kf3 => rfl); (case kf4 => rfl); (case kf5 => exact (HD2.out.thereC _)); (case kf6 => kernel_rfl); (case kf7 => exact (cl_one _ _)))
    | ((with_reducible refine wpList_load_mid ?kg1 26 ?kgx ?kg2 (w2.heap.size) 0 ?kg3 (cl (gUnit n).1.get 16) ?kgd ?kg4 ?kg5 ?kg6 ?kg7 ?kg8); (case kg2 => rfl); (case kg1 => rfl); (case kg3 => rfl); (case kg4 => exact (HR2.out)); (case kg5 => exact Tryd.underlying26); (case kg6 => rfl); (case kg7 => kernel_rfl))
    | ((with_reducible refine wpList_load_mid ?kh1 26 ?khx ?kh2 (w1.heap.size) 0 ?kh3 (cl (gUnit n).1.get 16) ?khd ?kh4 ?kh5 ?kh6 ?kh7 ?kh8); (case kh2 => rfl); (case kh1 => rfl); (case kh3 => rfl); (case kh4 => exact (HR1.out)); (case kh5 => exact Tryd.underlying26); (case kh6 => rfl); (case kh7 => kernel_rfl)))
  refine (eqTable_cc (gUnit n).1 _).mono ?_
  rintro e w3 ⟨rfl, hb⟩
  have HB := Lib.hid (show Below w.heap.size w w3 from HB.out.trans (hb.mono HB.out.size))
  clear hb HR1 HR2 HD2
  generalize (gUnit n).2 = bb
  cases bb
  all_goals (go_wp2; go_ret; exact ⟨rfl, HB.out⟩)

set_option maxRecDepth 100000 in
theorem door_FnExactTableUnit (os : Os) (args : Array Value) : laidMetH Tryd.prog Rows.fnExactTableUnitRow.laid ((World.doorLaid Tryd.prog 43 os).forCall (fun _ _ => 0) ⟨#[], args, []⟩).memory :=
  laidMetH_of_parts3 (fuel := 8) (laidMet_of_run' 8 (by kernel_rfl) (by kernel_rfl)) (by kernel_rfl) (by kernel_rfl)
set_option maxRecDepth 100000 in
theorem lifted_FnExactTableUnit (os : Os) (started : os.Started) (H : Type) (enc : TypeId × Value → H) :
    ReturnsInHanded {} Tryd.checked os 3 .any (fun w args => (Rows.fnExactTableUnitSpec.pre enc Tryd.prog Tryd.f3 [] false w args ∧ laidMetH Tryd.prog Rows.fnExactTableUnitRow.laid w) ∧ sizedMet enc Tryd.prog Tryd.f3 (OpenSpec.ofChange Rows.fnExactTableUnitSpec) false w args) (Rows.fnExactTableUnitSpec.post enc Tryd.prog Tryd.f3 false true false false) := by
  refine returnsInHanded_of_change_and (C := Tryd.checked) (X := fun w _ => laidMetH Tryd.prog Rows.fnExactTableUnitRow.laid w) (fun _ _ _ hh h => h.of_heap hh) Tryd.own started (by kernel_rfl) Tryd.func3
    (ChangeSpec.witness_shaped (enc := enc) (C := Tryd.checked) (os := os) (X := fun w _ => laidMetH Tryd.prog Rows.fnExactTableUnitRow.laid w) false (World.doorLaid Tryd.prog 43 os) #[.int .i64 0] 8 rfl (World.shaped_of_RefB (by kernel_rfl) (by kernel_rfl)) (by kernel_rfl) (by kernel_rfl) (by kernel_rfl) (door_FnExactTableUnit os _)) ?_
  intro W base args ds gs before hval0 hW _ _ hL _
  have hval : ∀ (j : Nat) t v, Tryd.f3.params[j]? = some t → args[j]? = some v → Value.okWide Tryd.prog W .any base t v := hval0
  have hW' := hW
  obtain ⟨p, q, hA0, hV, rfl, hfz, hnd⟩ := hW
  have hA : DataW.TrodAll enc Tryd.prog W 0 (fun _ => true) true Tryd.f3.params.toList args.toList ds p := hA0
  rw [Tryd.params3] at hA hval
  obtain ⟨v0, d0, rfl, rfl, h0⟩ := trodAll_one hA
  obtain ⟨g0, rfl⟩ := len1 (vars_len hV)
  have hG_zero := gat_zero hL (by decide) (by simp [Rows.fnExactTableUnitRow, Rows.laid_loop_example_polarisedlight_impl_zero])
  obtain ⟨n, rfl, rfl, rfl, wn⟩ := open_int Tryd.underlying3 (hval 0 3 v0 rfl rfl) h0
  clear hA0 hval0
  refine (walk_FnExactTableUnit n wn W hG_zero).mono fun e W' ⟨he, hb⟩ => ?_
  subst he
  refine ⟨_, rfl, _, _, _, [], [], q, hW', trodAll_mk1 (shut_bool Tryd.underlying4 _), trodAll_mk1 (shut_int Tryd.underlying3 wn), Below.trodVars Tryd.laidOut hb (by kernel_rfl) hV, hb.frame _, fun h => by cases h⟩
theorem said_FnExactTableUnit : Rows.FnExactTableUnitSaid :=
  OpenClaim.holds_of_wide 3 Tryd.f3 rfl rfl rfl rfl rfl rfl rfl ⟨rfl, rfl, rfl, rfl, rfl⟩ rfl rfl rfl rfl rfl (by kernel_rfl) Tryd.func3 (by kernel_rfl)
    (of_decide_eq_true (by kernel_rfl)) (by unfold Func.isWrapper; first | (rw [if_pos (by decide +kernel)]; kernel_rfl) | (rw [if_neg (by decide +kernel)]; exact ⟨rfl, rfl⟩))
    (fun os started H enc _ => lifted_FnExactTableUnit os started H enc)
set_option maxRecDepth 100000 in
/-- THE STATEMENT: THE CARD. -/
theorem holds_FnExactTableUnit : Rows.FnExactTableUnitCardSaid :=
  Claim7.holds_tied_plain_at .later [] [.data] true (true, "4641a63997bae2f3f605d4183781842987cd6e93f60671f0fe7f4fb0ecf64798") false
    said_FnExactTableUnit (fun _ h => by cases h) (by kernel_rfl) (fun _ h => by cases h) fnExactTableUnit_row_tie rfl ⟨rfl, rfl⟩ (by kernel_rfl) rfl
    (fun f fn hf hfn => by
      obtain rfl : f = 3 := Option.some.inj ((show Tryd.prog.funcNamed "loop.example/polarisedlight/laws.FnExactTableUnit" = some 3 by kernel_rfl).symm.trans hf) |>.symm
      obtain rfl : fn = Tryd.f3 := (Option.some.inj (Tryd.func3.symm.trans hfn)).symm
      exact ⟨by kernel_rfl, fun j t ht => by
        rw [Tryd.params3] at ht
        have hm : t ∈ [3] := by simpa using Array.mem_of_getElem? ht
        have hall : ([3].all fun u => !Tryd.prog.wantsStandIn u) = true := by kernel_rfl
        exact (show Tryd.prog.wantsStandIn t = false by simpa using List.all_eq_true.1 hall t hm)⟩)
    (by kernel_rfl)
end Go.Proofs.YtmcokdiopcpifaaDoor
