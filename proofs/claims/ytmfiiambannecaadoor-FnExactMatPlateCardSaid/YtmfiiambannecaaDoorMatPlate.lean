/- The program's MatPlate answers what the reference's answers, for all arguments. The row lists package-level variables, and the card ties them to the text of the program: the pruned copy of the project that the seat holds. -/
import Derived.Test.YtmfiiambannecaaDoorO
import Derived.Test.YtmfiiambannecaaDoorPV
import Derived.Test.YtmfiiambannecaaDoorTie
import Derived.Test.YtmfiiambannecaaDoorCards
import Derived.SevenTiedAt
import Derived.Test.YtmfiiambannecaaDoorMP2
import Derived.Test.YtmfiiambannecaaDoorM
namespace Go.Proofs.YtmfiiambannecaaDoor
open Go.ChangeShapes Go.WideShapes Go.ChangeAt Go.RowKit Pol

set_option maxRecDepth 100000 in
set_option maxHeartbeats 16000000 in
theorem walk_FnExactMatPlate (x : Int) (y : Int) (k : Int) (_wx : (Lit.int .i64 x).wf = true) (_wy : (Lit.int .i64 y).wf = true) (_wk : (Lit.int .i64 k).wf = true) (w : World) (hg_zero : Gat w 2 (ixF f0) 1) (hg_one : Gat w 1 (ixF f1) 1) (hg_turns : Gat w 3 mTurns.get 4) :
    Calls Tryd.prog 4 #[.int .i64 x, .int .i64 y, .int .i64 k] w (fun e w' => e = .returned (.bool true) ∧ Below w.heap.size w w') := by
  have HB : Hid (Below w.heap.size w w) := Below.refl _ _
  have HG_zero := Lib.hid hg_zero; clear hg_zero
  have HG_one := Lib.hid hg_one; clear hg_one
  have HG_turns := Lib.hid hg_turns; clear hg_turns
  go_enter Tryd.func4, Tryd.ntmps4
  go_wp2_with fail
  refine (spla_any x y k _).mono ?_
  rintro e w1 ho
  obtain ⟨rfl, hb⟩ : e = .returned (.tuple #[.agg #[.int .i64 (gPla x y k).1.a.re, .int .i64 (gPla x y k).1.a.im, .int .i64 (gPla x y k).1.a.den, .int .i64 (gPla x y k).1.b.re, .int .i64 (gPla x y k).1.b.im, .int .i64 (gPla x y k).1.b.den, .int .i64 (gPla x y k).1.c.re, .int .i64 (gPla x y k).1.c.im, .int .i64 (gPla x y k).1.c.den, .int .i64 (gPla x y k).1.d.re, .int .i64 (gPla x y k).1.d.im, .int .i64 (gPla x y k).1.d.den], .bool (gPla x y k).2]) ∧ Below _ _ _ := ho.fn
  clear ho
  have HB := Lib.hid (show Below w.heap.size w w1 from HB.out.trans ((show Below _ _ _ from (Below.refl _ _)).trans (hb.mono (by first | omega | (simp <;> omega)))))
  have hz1 := hb.size
  (try simp at hz1)
  clear hb
  go_wp2_with fail
  refine (ipla_any x y k _ (HG_one.out.below (Below.alloc HB.out (by first | omega | (simp; done) | (simp <;> omega)) _)) (HG_zero.out.below (Below.alloc HB.out (by first | omega | (simp; done) | (simp <;> omega)) _)) (HG_turns.out.below (Below.alloc HB.out (by first | omega | (simp; done) | (simp <;> omega)) _))).mono ?_
  rintro e w2 ho
  obtain ⟨rfl, hb⟩ : e = .returned (.tuple #[.agg #[.int .i64 (gPla x y k).1.a.re, .int .i64 (gPla x y k).1.a.im, .int .i64 (gPla x y k).1.a.den, .int .i64 (gPla x y k).1.b.re, .int .i64 (gPla x y k).1.b.im, .int .i64 (gPla x y k).1.b.den, .int .i64 (gPla x y k).1.c.re, .int .i64 (gPla x y k).1.c.im, .int .i64 (gPla x y k).1.c.den, .int .i64 (gPla x y k).1.d.re, .int .i64 (gPla x y k).1.d.im, .int .i64 (gPla x y k).1.d.den], .bool (gPla x y k).2]) ∧ Below _ _ _ := ho.fn
  clear ho
  have HB := Lib.hid (show Below w.heap.size w w2 from HB.out.trans ((show Below _ _ _ from ((Below.refl _ _).alloc (by first | omega | (simp; done) | (simp <;> omega)) _)).trans (hb.mono (by first | omega | (simp <;> omega)))))
  have Hsw : Hid (w2.rangeAt (w1.heap.size) 0 [.int .i64 (gPla x y k).1.a.re, .int .i64 (gPla x y k).1.a.im, .int .i64 (gPla x y k).1.a.den, .int .i64 (gPla x y k).1.b.re, .int .i64 (gPla x y k).1.b.im, .int .i64 (gPla x y k).1.b.den, .int .i64 (gPla x y k).1.c.re, .int .i64 (gPla x y k).1.c.im, .int .i64 (gPla x y k).1.c.den, .int .i64 (gPla x y k).1.d.re, .int .i64 (gPla x y k).1.d.im, .int .i64 (gPla x y k).1.d.den]) := rangeAt_below (rangeAt_new _ _ _) hb (by first | omega | (simp; done) | (simp <;> omega))
  have hz2 := hb.size
  (try simp at hz2)
  clear hb
  have nA0 : w1.heap.size < w2.heap.size := by omega
  have nB0 : ¬ w1.heap.size = w2.heap.size := by omega
  have nC0 : ¬ w2.heap.size = w1.heap.size := by omega
  go_wp2_with (first | ((with_reducible refine wpList_load_mid ?kl11 31 ?kl1x ?kl12 (w1.heap.size) 0 ?kl13 [.int .i64 (gPla x y k).1.a.re, .int .i64 (gPla x y k).1.a.im, .int .i64 (gPla x y k).1.a.den, .int .i64 (gPla x y k).1.b.re, .int .i64 (gPla x y k).1.b.im, .int .i64 (gPla x y k).1.b.den, .int .i64 (gPla x y k).1.c.re, .int .i64 (gPla x y k).1.c.im, .int .i64 (gPla x y k).1.c.den, .int .i64 (gPla x y k).1.d.re, .int .i64 (gPla x y k).1.d.im, .int .i64 (gPla x y k).1.d.den] ?kl1d ?kl14 ?kl15 ?kl16 ?kl17 ?kl18); (case kl12 => rfl); (case kl11 => rfl); (case kl13 => rfl); (case kl14 => (exact (World.rangeAt_alloc Hsw.out _))); (case kl15 => exact Tryd.underlying31); (case kl16 => rfl); (case kl17 => kernel_rfl)) | ((with_reducible refine wpList_load_mid ?kl21 31 ?kl2x ?kl22 (w2.heap.size) 0 ?kl23 [.int .i64 (gPla x y k).1.a.re, .int .i64 (gPla x y k).1.a.im, .int .i64 (gPla x y k).1.a.den, .int .i64 (gPla x y k).1.b.re, .int .i64 (gPla x y k).1.b.im, .int .i64 (gPla x y k).1.b.den, .int .i64 (gPla x y k).1.c.re, .int .i64 (gPla x y k).1.c.im, .int .i64 (gPla x y k).1.c.den, .int .i64 (gPla x y k).1.d.re, .int .i64 (gPla x y k).1.d.im, .int .i64 (gPla x y k).1.d.den] ?kl2d ?kl24 ?kl25 ?kl26 ?kl27 ?kl28); (case kl22 => rfl); (case kl21 => rfl); (case kl23 => rfl); (case kl24 => (exact (rangeAt_new _ _ _))); (case kl25 => exact Tryd.underlying31); (case kl26 => rfl); (case kl27 => kernel_rfl)))
  refine (eqMat_same (gPla x y k).1 _).mono ?_
  rintro e w3 ho
  obtain ⟨rfl, hb⟩ : e = .returned (.bool true) ∧ Below _ _ _ := (id ho)
  clear ho
  have HB := Lib.hid (show Below w.heap.size w w3 from HB.out.trans ((show Below _ _ _ from ((Below.refl _ _).alloc (by first | omega | (simp; done) | (simp <;> omega)) _)).trans (hb.mono (by first | omega | (simp <;> omega)))))
  have Hsw : Hid (w3.rangeAt (w1.heap.size) 0 [.int .i64 (gPla x y k).1.a.re, .int .i64 (gPla x y k).1.a.im, .int .i64 (gPla x y k).1.a.den, .int .i64 (gPla x y k).1.b.re, .int .i64 (gPla x y k).1.b.im, .int .i64 (gPla x y k).1.b.den, .int .i64 (gPla x y k).1.c.re, .int .i64 (gPla x y k).1.c.im, .int .i64 (gPla x y k).1.c.den, .int .i64 (gPla x y k).1.d.re, .int .i64 (gPla x y k).1.d.im, .int .i64 (gPla x y k).1.d.den]) := rangeAt_below (World.rangeAt_alloc Hsw.out _) hb (by first | omega | (simp; done) | (simp <;> omega))
  have Hgw : Hid (w3.rangeAt (w2.heap.size) 0 [.int .i64 (gPla x y k).1.a.re, .int .i64 (gPla x y k).1.a.im, .int .i64 (gPla x y k).1.a.den, .int .i64 (gPla x y k).1.b.re, .int .i64 (gPla x y k).1.b.im, .int .i64 (gPla x y k).1.b.den, .int .i64 (gPla x y k).1.c.re, .int .i64 (gPla x y k).1.c.im, .int .i64 (gPla x y k).1.c.den, .int .i64 (gPla x y k).1.d.re, .int .i64 (gPla x y k).1.d.im, .int .i64 (gPla x y k).1.d.den]) := rangeAt_below (rangeAt_new _ _ _) hb (by first | omega | (simp; done) | (simp <;> omega))
  have hz3 := hb.size
  (try simp at hz3)
  clear hb
  have nA0 : w1.heap.size < w3.heap.size := by omega
  have nB0 : ¬ w1.heap.size = w3.heap.size := by omega
  have nC0 : ¬ w3.heap.size = w1.heap.size := by omega
  have nA1 : w2.heap.size < w3.heap.size := by omega
  have nB1 : ¬ w2.heap.size = w3.heap.size := by omega
  have nC1 : ¬ w3.heap.size = w2.heap.size := by omega
  go_wp2_with fail
  go_ret
  exact ⟨rfl, (by (repeat' first | (with_reducible exact HB.out) | with_reducible refine setCells_below _ _ _ ?_ (by first | omega | (simp <;> omega)) | with_reducible refine Below.setCell ?_ (by show _ ≤ _; first | omega | (simp <;> omega) | simp) _ | with_reducible refine Below.alloc ?_ (by first | omega | (simp <;> omega)) _ | with_reducible apply Below.drew | with_reducible refine below_drewN ?_ _))⟩

set_option maxRecDepth 100000 in
theorem door_FnExactMatPlate (os : Os) (args : Array Value) : laidMetH Tryd.prog Rows.fnExactMatPlateRow.laid ((World.doorLaid Tryd.prog 43 os).forCall (fun _ _ => 0) ⟨#[], args, []⟩).memory :=
  laidMetH_of_parts3 (fuel := 8) (laidMet_of_run' 8 (by kernel_rfl) (by kernel_rfl)) (by kernel_rfl) (by kernel_rfl)
set_option maxRecDepth 100000 in
theorem lifted_FnExactMatPlate (os : Os) (started : os.Started) (H : Type) (enc : TypeId × Value → H) :
    ReturnsInHanded {} Tryd.checked os 4 .any (fun w args => (Rows.fnExactMatPlateSpec.pre enc Tryd.prog Tryd.f4 [] false w args ∧ laidMetH Tryd.prog Rows.fnExactMatPlateRow.laid w) ∧ sizedMet enc Tryd.prog Tryd.f4 (OpenSpec.ofChange Rows.fnExactMatPlateSpec) false w args) (Rows.fnExactMatPlateSpec.post enc Tryd.prog Tryd.f4 false true false false) := by
  refine returnsInHanded_of_change_and (C := Tryd.checked) (X := fun w _ => laidMetH Tryd.prog Rows.fnExactMatPlateRow.laid w) (fun _ _ _ hh h => h.of_heap hh) Tryd.own started (by kernel_rfl) Tryd.func4
    (ChangeSpec.witness_shaped (enc := enc) (C := Tryd.checked) (os := os) (X := fun w _ => laidMetH Tryd.prog Rows.fnExactMatPlateRow.laid w) false (World.doorLaid Tryd.prog 43 os) #[.int .i64 0, .int .i64 0, .int .i64 0] 8 rfl (World.shaped_of_RefB (by kernel_rfl) (by kernel_rfl)) (by kernel_rfl) (by kernel_rfl) (by kernel_rfl) (door_FnExactMatPlate os _)) ?_
  intro W base args ds gs before hval0 hW _ _ hL _
  have hval : ∀ (j : Nat) t v, Tryd.f4.params[j]? = some t → args[j]? = some v → Value.okWide Tryd.prog W .any base t v := hval0
  have hW' := hW
  obtain ⟨p, q, hA0, hV, rfl, hfz, hnd⟩ := hW
  have hA : DataW.TrodAll enc Tryd.prog W 0 (fun _ => true) true Tryd.f4.params.toList args.toList ds p := hA0
  rw [Tryd.params4] at hA hval
  obtain ⟨v0, v1, v2, d0, d1, d2, p0, p1, p2, rfl, rfl, rfl, h0, h1, h2⟩ := trodAll_three hA
  obtain ⟨g0, g1, g2, rfl⟩ := len3 (vars_len hV)
  have hG_zero := gat_zero hL (by decide) (by simp [Rows.fnExactMatPlateRow, Rows.laid_loop_example_polarisedlight_impl_zero])
  have hG_one := gat_one hL (by decide) (by simp [Rows.fnExactMatPlateRow, Rows.laid_loop_example_polarisedlight_impl_one])
  have hG_turns := gat_turns hL (by decide) (by simp [Rows.fnExactMatPlateRow, Rows.laid_loop_example_polarisedlight_impl_turns])
  obtain ⟨x, rfl, rfl, rfl, wx⟩ := open_int Tryd.underlying3 (hval 0 3 v0 rfl rfl) h0
  obtain ⟨y, rfl, rfl, rfl, wy⟩ := open_int Tryd.underlying3 (hval 1 3 v1 rfl rfl) h1
  obtain ⟨k, rfl, rfl, rfl, wk⟩ := open_int Tryd.underlying3 (hval 2 3 v2 rfl rfl) h2
  clear hA0 hval0
  refine (walk_FnExactMatPlate x y k wx wy wk W hG_zero hG_one hG_turns).mono fun e W' ⟨he, hb⟩ => ?_
  subst he
  refine ⟨_, rfl, _, _, _, [], ([] ++ ([] ++ [])), q, hW', trodAll_mk1 (shut_bool Tryd.underlying4 _), trodAll_mk3 (shut_int Tryd.underlying3 wx) (shut_int Tryd.underlying3 wy) (shut_int Tryd.underlying3 wk), Below.trodVars Tryd.laidOut hb (by kernel_rfl) hV, hb.frame _, fun h => by cases h⟩
theorem said_FnExactMatPlate : Rows.FnExactMatPlateSaid :=
  OpenClaim.holds_of_wide 4 Tryd.f4 rfl rfl rfl rfl rfl rfl rfl ⟨rfl, rfl, rfl, rfl, rfl⟩ rfl rfl rfl rfl rfl (by kernel_rfl) Tryd.func4 (by kernel_rfl)
    (of_decide_eq_true (by kernel_rfl)) (by unfold Func.isWrapper; first | (rw [if_pos (by decide +kernel)]; kernel_rfl) | (rw [if_neg (by decide +kernel)]; exact ⟨rfl, rfl⟩))
    (fun os started H enc _ => lifted_FnExactMatPlate os started H enc)
set_option maxRecDepth 100000 in
/-- THE STATEMENT: THE CARD. -/
theorem holds_FnExactMatPlate : Rows.FnExactMatPlateCardSaid :=
  Claim7.holds_tied_plain_at .later [] [.data, .data, .data] true (true, "97cf94f10c537c43f0a2fe34d9d4df8735f8a51c888db8468cbe64db7c82f4c0") false
    said_FnExactMatPlate (fun _ h => by cases h) (by kernel_rfl) (fun _ h => by cases h) fnExactMatPlate_row_tie rfl ⟨rfl, rfl⟩ (by kernel_rfl) rfl
    (fun f fn hf hfn => by
      obtain rfl : f = 4 := Option.some.inj ((show Tryd.prog.funcNamed "loop.example/polarisedlight/laws.FnExactMatPlate" = some 4 by kernel_rfl).symm.trans hf) |>.symm
      obtain rfl : fn = Tryd.f4 := (Option.some.inj (Tryd.func4.symm.trans hfn)).symm
      exact ⟨by kernel_rfl, fun j t ht => by
        rw [Tryd.params4] at ht
        have hm : t ∈ [3, 3, 3] := by simpa using Array.mem_of_getElem? ht
        have hall : ([3, 3, 3].all fun u => !Tryd.prog.wantsStandIn u) = true := by kernel_rfl
        exact (show Tryd.prog.wantsStandIn t = false by simpa using List.all_eq_true.1 hall t hm)⟩)
    (by kernel_rfl)
end Go.Proofs.YtmfiiambannecaaDoor
