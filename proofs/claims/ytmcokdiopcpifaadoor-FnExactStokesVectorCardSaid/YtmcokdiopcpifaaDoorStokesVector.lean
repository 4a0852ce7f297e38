/- The program's StokesVector answers what the reference's answers, for all arguments. The row lists package-level variables, and the card ties them to the text of the program: the pruned copy of the project that the seat holds. -/
import Derived.Test.YtmcokdiopcpifaaDoorO
import Derived.Test.YtmcokdiopcpifaaDoorPV
import Derived.Test.YtmcokdiopcpifaaDoorTie
import Derived.Test.YtmcokdiopcpifaaDoorCards
import Derived.SevenTiedAt
import Derived.Test.YtmcokdiopcpifaaDoorVI
import Derived.Test.YtmcokdiopcpifaaDoorM
import Derived.Test.YtmcokdiopcpifaaDoorMJ
set_option maxRecDepth 100000
namespace Go.Proofs.YtmcokdiopcpifaaDoor
open Go.ChangeShapes Go.WideShapes Go.ChangeAt Go.RowKit Pol

set_option maxRecDepth 100000 in
set_option maxHeartbeats 16000000 in
theorem walk_FnExactStokesVector (m : M4) (w : World) (hg_zero : Gat w 1 (ixF f0) 1) (hg_unit : Gat w 2 (ixF pI) 1) :
    Calls Tryd.prog 6 #[.agg #[.int .i64 m.a.re, .int .i64 m.a.im, .int .i64 m.a.den, .int .i64 m.b.re, .int .i64 m.b.im, .int .i64 m.b.den, .int .i64 m.c.re, .int .i64 m.c.im, .int .i64 m.c.den, .int .i64 m.d.re, .int .i64 m.d.im, .int .i64 m.d.den]] w (fun e w' => e = .returned (.bool true) ∧ Below w.heap.size w w') := by
  have HB : Hid (Below w.heap.size w w) := Below.refl _ _
  have HG_zero := Lib.hid hg_zero; clear hg_zero
  have HG_unit := Lib.hid hg_unit; clear hg_unit
  go_enter Tryd.func6, Tryd.ntmps6
  go_wp2_with (first | ((with_reducible refine wpList_load_mid ?kl11 45 ?kl1x ?kl12 (w.heap.size) 0 ?kl13 [.int .i64 m.a.re, .int .i64 m.a.im, .int .i64 m.a.den, .int .i64 m.b.re, .int .i64 m.b.im, .int .i64 m.b.den, .int .i64 m.c.re, .int .i64 m.c.im, .int .i64 m.c.den, .int .i64 m.d.re, .int .i64 m.d.im, .int .i64 m.d.den] ?kl1d ?kl14 ?kl15 ?kl16 ?kl17 ?kl18); (case kl12 => rfl); (case kl11 => rfl); (case kl13 => rfl); (case kl14 => (exact (rangeAt_new _ _ _))); (case kl15 => exact Tryd.underlying45); (case kl16 => rfl); (case kl17 => kernel_rfl)))
  refine (toStokes_any m _).mono ?_
  rintro e w1 ho
  obtain ⟨rfl, hb⟩ : e = .returned (.agg #[.int .i64 m.a.re, .int .i64 m.a.im, .int .i64 m.a.den, .int .i64 m.b.re, .int .i64 m.b.im, .int .i64 m.b.den, .int .i64 m.c.re, .int .i64 m.c.im, .int .i64 m.c.den, .int .i64 m.d.re, .int .i64 m.d.im, .int .i64 m.d.den]) ∧ Below _ _ _ := (id ho)
  clear ho
  have HB := Lib.hid (show Below w.heap.size w w1 from HB.out.trans ((show Below _ _ _ from ((Below.refl _ _).alloc (by first | omega | (simp; done) | (simp <;> omega)) _)).trans (hb.mono (by first | omega | (simp <;> omega)))))
  have Hm : Hid (w1.rangeAt (w.heap.size) 0 [.int .i64 m.a.re, .int .i64 m.a.im, .int .i64 m.a.den, .int .i64 m.b.re, .int .i64 m.b.im, .int .i64 m.b.den, .int .i64 m.c.re, .int .i64 m.c.im, .int .i64 m.c.den, .int .i64 m.d.re, .int .i64 m.d.im, .int .i64 m.d.den]) := rangeAt_below (rangeAt_new _ _ _) hb (by first | omega | (simp; done) | (simp <;> omega))
  have hz1 := hb.size
  (try simp at hz1)
  clear hb
  have nA0 : w.heap.size < w1.heap.size := by omega
  have nB0 : ¬ w.heap.size = w1.heap.size := by omega
  have nC0 : ¬ w1.heap.size = w.heap.size := by omega
  go_wp2_with fail
  refine (svec_v m _).mono ?_
  rintro e w2 ho
  obtain ⟨rfl, hb⟩ : e = .returned (.tuple #[.agg #[.int .i64 ((gVec m)).1.x.re, .int .i64 ((gVec m)).1.x.im, .int .i64 ((gVec m)).1.x.den, .int .i64 ((gVec m)).1.y.re, .int .i64 ((gVec m)).1.y.im, .int .i64 ((gVec m)).1.y.den], .bool ((gVec m)).2]) ∧ Below _ _ _ := ho.fn
  clear ho
  have HB := Lib.hid (show Below w.heap.size w w2 from HB.out.trans ((show Below _ _ _ from (Below.refl _ _)).trans (hb.mono (by first | omega | (simp <;> omega)))))
  have Hm : Hid (w2.rangeAt (w.heap.size) 0 [.int .i64 m.a.re, .int .i64 m.a.im, .int .i64 m.a.den, .int .i64 m.b.re, .int .i64 m.b.im, .int .i64 m.b.den, .int .i64 m.c.re, .int .i64 m.c.im, .int .i64 m.c.den, .int .i64 m.d.re, .int .i64 m.d.im, .int .i64 m.d.den]) := rangeAt_below Hm.out hb (by first | omega | (simp; done) | (simp <;> omega))
  have hz2 := hb.size
  (try simp at hz2)
  clear hb
  have nA0 : w.heap.size < w2.heap.size := by omega
  have nB0 : ¬ w.heap.size = w2.heap.size := by omega
  have nC0 : ¬ w2.heap.size = w.heap.size := by omega
  go_wp2_with (first | ((with_reducible refine wpList_load_mid ?kl21 45 ?kl2x ?kl22 (w.heap.size) 0 ?kl23 [.int .i64 m.a.re, .int .i64 m.a.im, .int .i64 m.a.den, .int .i64 m.b.re, .int .i64 m.b.im, .int .i64 m.b.den, .int .i64 m.c.re, .int .i64 m.c.im, .int .i64 m.c.den, .int .i64 m.d.re, .int .i64 m.d.im, .int .i64 m.d.den] ?kl2d ?kl24 ?kl25 ?kl26 ?kl27 ?kl28); (case kl22 => rfl); (case kl21 => rfl); (case kl23 => rfl); (case kl24 => (exact (World.rangeAt_alloc Hm.out _))); (case kl25 => exact Tryd.underlying45); (case kl26 => rfl); (case kl27 => kernel_rfl)))
  refine (toStokes_any m _).mono ?_
  rintro e w3 ho
  obtain ⟨rfl, hb⟩ : e = .returned (.agg #[.int .i64 m.a.re, .int .i64 m.a.im, .int .i64 m.a.den, .int .i64 m.b.re, .int .i64 m.b.im, .int .i64 m.b.den, .int .i64 m.c.re, .int .i64 m.c.im, .int .i64 m.c.den, .int .i64 m.d.re, .int .i64 m.d.im, .int .i64 m.d.den]) ∧ Below _ _ _ := (id ho)
  clear ho
  have HB := Lib.hid (show Below w.heap.size w w3 from HB.out.trans ((show Below _ _ _ from ((Below.refl _ _).alloc (by first | omega | (simp; done) | (simp <;> omega)) _)).trans (hb.mono (by first | omega | (simp <;> omega)))))
  have Hm : Hid (w3.rangeAt (w.heap.size) 0 [.int .i64 m.a.re, .int .i64 m.a.im, .int .i64 m.a.den, .int .i64 m.b.re, .int .i64 m.b.im, .int .i64 m.b.den, .int .i64 m.c.re, .int .i64 m.c.im, .int .i64 m.c.den, .int .i64 m.d.re, .int .i64 m.d.im, .int .i64 m.d.den]) := rangeAt_below (World.rangeAt_alloc Hm.out _) hb (by first | omega | (simp; done) | (simp <;> omega))
  have Hsw : Hid (w3.rangeAt (w2.heap.size) 0 [.int .i64 ((gVec m)).1.x.re, .int .i64 ((gVec m)).1.x.im, .int .i64 ((gVec m)).1.x.den, .int .i64 ((gVec m)).1.y.re, .int .i64 ((gVec m)).1.y.im, .int .i64 ((gVec m)).1.y.den]) := rangeAt_below (rangeAt_new _ _ _) hb (by first | omega | (simp; done) | (simp <;> omega))
  have hz3 := hb.size
  (try simp at hz3)
  clear hb
  have nA0 : w.heap.size < w3.heap.size := by omega
  have nB0 : ¬ w.heap.size = w3.heap.size := by omega
  have nC0 : ¬ w3.heap.size = w.heap.size := by omega
  have nA1 : w2.heap.size < w3.heap.size := by omega
  have nB1 : ¬ w2.heap.size = w3.heap.size := by omega
  have nC1 : ¬ w3.heap.size = w2.heap.size := by omega
  go_wp2_with fail
  refine (ivec_any m _ (HG_zero.out.below HB.out) (HG_unit.out.below HB.out)).mono ?_
  rintro e w4 ho
  obtain ⟨rfl, hb⟩ : e = .returned (.tuple #[.agg #[.int .i64 ((gVec m)).1.x.re, .int .i64 ((gVec m)).1.x.im, .int .i64 ((gVec m)).1.x.den, .int .i64 ((gVec m)).1.y.re, .int .i64 ((gVec m)).1.y.im, .int .i64 ((gVec m)).1.y.den], .bool ((gVec m)).2]) ∧ Below _ _ _ := ho.fn
  clear ho
  have HB := Lib.hid (show Below w.heap.size w w4 from HB.out.trans ((show Below _ _ _ from (Below.refl _ _)).trans (hb.mono (by first | omega | (simp <;> omega)))))
  have Hm : Hid (w4.rangeAt (w.heap.size) 0 [.int .i64 m.a.re, .int .i64 m.a.im, .int .i64 m.a.den, .int .i64 m.b.re, .int .i64 m.b.im, .int .i64 m.b.den, .int .i64 m.c.re, .int .i64 m.c.im, .int .i64 m.c.den, .int .i64 m.d.re, .int .i64 m.d.im, .int .i64 m.d.den]) := rangeAt_below Hm.out hb (by first | omega | (simp; done) | (simp <;> omega))
  have Hsw : Hid (w4.rangeAt (w2.heap.size) 0 [.int .i64 ((gVec m)).1.x.re, .int .i64 ((gVec m)).1.x.im, .int .i64 ((gVec m)).1.x.den, .int .i64 ((gVec m)).1.y.re, .int .i64 ((gVec m)).1.y.im, .int .i64 ((gVec m)).1.y.den]) := rangeAt_below Hsw.out hb (by first | omega | (simp; done) | (simp <;> omega))
  have hz4 := hb.size
  (try simp at hz4)
  clear hb
  have nA0 : w.heap.size < w4.heap.size := by omega
  have nB0 : ¬ w.heap.size = w4.heap.size := by omega
  have nC0 : ¬ w4.heap.size = w.heap.size := by omega
  have nA1 : w2.heap.size < w4.heap.size := by omega
  have nB1 : ¬ w2.heap.size = w4.heap.size := by omega
  have nC1 : ¬ w4.heap.size = w2.heap.size := by omega
  go_wp2_with (first | ((with_reducible refine wpList_load_mid ?kl31 47 ?kl3x ?kl32 (w2.heap.size) 0 ?kl33 [.int .i64 ((gVec m)).1.x.re, .int .i64 ((gVec m)).1.x.im, .int .i64 ((gVec m)).1.x.den, .int .i64 ((gVec m)).1.y.re, .int .i64 ((gVec m)).1.y.im, .int .i64 ((gVec m)).1.y.den] ?kl3d ?kl34 ?kl35 ?kl36 ?kl37 ?kl38); (case kl32 => rfl); (case kl31 => rfl); (case kl33 => rfl); (case kl34 => (exact (World.rangeAt_alloc Hsw.out _))); (case kl35 => exact Tryd.underlying47); (case kl36 => rfl); (case kl37 => kernel_rfl)) | ((with_reducible refine wpList_load_mid ?kl41 47 ?kl4x ?kl42 (w4.heap.size) 0 ?kl43 [.int .i64 ((gVec m)).1.x.re, .int .i64 ((gVec m)).1.x.im, .int .i64 ((gVec m)).1.x.den, .int .i64 ((gVec m)).1.y.re, .int .i64 ((gVec m)).1.y.im, .int .i64 ((gVec m)).1.y.den] ?kl4d ?kl44 ?kl45 ?kl46 ?kl47 ?kl48); (case kl42 => rfl); (case kl41 => rfl); (case kl43 => rfl); (case kl44 => (exact (rangeAt_new _ _ _))); (case kl45 => exact Tryd.underlying47); (case kl46 => rfl); (case kl47 => kernel_rfl)))
  refine (eqJones_same ((gVec m)).1 _).mono ?_
  rintro e w5 ho
  obtain ⟨rfl, hb⟩ : e = .returned (.bool true) ∧ Below _ _ _ := (id ho)
  clear ho
  have HB := Lib.hid (show Below w.heap.size w w5 from HB.out.trans ((show Below _ _ _ from ((Below.refl _ _).alloc (by first | omega | (simp; done) | (simp <;> omega)) _)).trans (hb.mono (by first | omega | (simp <;> omega)))))
  have Hm : Hid (w5.rangeAt (w.heap.size) 0 [.int .i64 m.a.re, .int .i64 m.a.im, .int .i64 m.a.den, .int .i64 m.b.re, .int .i64 m.b.im, .int .i64 m.b.den, .int .i64 m.c.re, .int .i64 m.c.im, .int .i64 m.c.den, .int .i64 m.d.re, .int .i64 m.d.im, .int .i64 m.d.den]) := rangeAt_below (World.rangeAt_alloc Hm.out _) hb (by first | omega | (simp; done) | (simp <;> omega))
  have Hsw : Hid (w5.rangeAt (w2.heap.size) 0 [.int .i64 ((gVec m)).1.x.re, .int .i64 ((gVec m)).1.x.im, .int .i64 ((gVec m)).1.x.den, .int .i64 ((gVec m)).1.y.re, .int .i64 ((gVec m)).1.y.im, .int .i64 ((gVec m)).1.y.den]) := rangeAt_below (World.rangeAt_alloc Hsw.out _) hb (by first | omega | (simp; done) | (simp <;> omega))
  have Hgw : Hid (w5.rangeAt (w4.heap.size) 0 [.int .i64 ((gVec m)).1.x.re, .int .i64 ((gVec m)).1.x.im, .int .i64 ((gVec m)).1.x.den, .int .i64 ((gVec m)).1.y.re, .int .i64 ((gVec m)).1.y.im, .int .i64 ((gVec m)).1.y.den]) := rangeAt_below (rangeAt_new _ _ _) hb (by first | omega | (simp; done) | (simp <;> omega))
  have hz5 := hb.size
  (try simp at hz5)
  clear hb
  have nA0 : w.heap.size < w5.heap.size := by omega
  have nB0 : ¬ w.heap.size = w5.heap.size := by omega
  have nC0 : ¬ w5.heap.size = w.heap.size := by omega
  have nA1 : w2.heap.size < w5.heap.size := by omega
  have nB1 : ¬ w2.heap.size = w5.heap.size := by omega
  have nC1 : ¬ w5.heap.size = w2.heap.size := by omega
  have nA2 : w4.heap.size < w5.heap.size := by omega
  have nB2 : ¬ w4.heap.size = w5.heap.size := by omega
  have nC2 : ¬ w5.heap.size = w4.heap.size := by omega
  go_wp2_with fail
  go_ret
  exact ⟨rfl, (by (repeat' first | (with_reducible exact HB.out) | with_reducible refine setCells_below _ _ _ ?_ (by first | omega | (simp <;> omega)) | with_reducible refine Below.setCell ?_ (by show _ ≤ _; first | omega | (simp <;> omega) | simp) _ | with_reducible refine Below.alloc ?_ (by first | omega | (simp <;> omega)) _ | with_reducible apply Below.drew | with_reducible refine below_drewN ?_ _))⟩

set_option maxRecDepth 100000 in
theorem door_FnExactStokesVector (os : Os) (args : Array Value) : laidMetH Tryd.prog Rows.fnExactStokesVectorRow.laid ((World.doorLaid Tryd.prog 43 os).forCall (fun _ _ => 0) ⟨#[], args, []⟩).memory :=
  laidMetH_of_parts3 (fuel := 8) (laidMet_of_run' 8 (by kernel_rfl) (by kernel_rfl)) (by kernel_rfl) (by kernel_rfl)
set_option maxRecDepth 100000 in
theorem lifted_FnExactStokesVector (os : Os) (started : os.Started) (H : Type) (enc : TypeId × Value → H) :
    ReturnsInHanded {} Tryd.checked os 6 .any (fun w args => (Rows.fnExactStokesVectorSpec.pre enc Tryd.prog Tryd.f6 [] false w args ∧ laidMetH Tryd.prog Rows.fnExactStokesVectorRow.laid w) ∧ sizedMet enc Tryd.prog Tryd.f6 (OpenSpec.ofChange Rows.fnExactStokesVectorSpec) false w args) (Rows.fnExactStokesVectorSpec.post enc Tryd.prog Tryd.f6 false true false false) := by
  refine returnsInHanded_of_change_and (C := Tryd.checked) (X := fun w _ => laidMetH Tryd.prog Rows.fnExactStokesVectorRow.laid w) (fun _ _ _ hh h => h.of_heap hh) Tryd.own started (by kernel_rfl) Tryd.func6
    (ChangeSpec.witness_shaped (enc := enc) (C := Tryd.checked) (os := os) (X := fun w _ => laidMetH Tryd.prog Rows.fnExactStokesVectorRow.laid w) false (World.doorLaid Tryd.prog 43 os) #[.agg #[.int .i64 0, .int .i64 0, .int .i64 0, .int .i64 0, .int .i64 0, .int .i64 0, .int .i64 0, .int .i64 0, .int .i64 0, .int .i64 0, .int .i64 0, .int .i64 0]] 8 rfl (World.shaped_of_RefB (by kernel_rfl) (by kernel_rfl)) (by kernel_rfl) (by kernel_rfl) (by kernel_rfl) (door_FnExactStokesVector os _)) ?_
  intro W base args ds gs before hval0 hW _ _ hL _
  have hval : ∀ (j : Nat) t v, Tryd.f6.params[j]? = some t → args[j]? = some v → Value.okWide Tryd.prog W .any base t v := hval0
  have hW' := hW
  obtain ⟨p, q, hA0, hV, rfl, hfz, hnd⟩ := hW
  have hA : DataW.TrodAll enc Tryd.prog W 0 (fun _ => true) true Tryd.f6.params.toList args.toList ds p := hA0
  rw [Tryd.params6] at hA hval
  obtain ⟨v0, d0, rfl, rfl, h0⟩ := trodAll_one hA
  obtain ⟨g0, g1, rfl⟩ := len2 (vars_len hV)
  have hG_zero := gat_zero hL (by decide) (by simp [Rows.fnExactStokesVectorRow, Rows.laid_loop_example_polarisedlight_impl_zero])
  have hG_unit := gat_unit hL (by decide) (by simp [Rows.fnExactStokesVectorRow, Rows.laid_loop_example_polarisedlight_impl_unit])
  obtain ⟨m, rfl⟩ := open_s4 (hval 0 45 v0 rfl rfl)
  clear hA0 hval0
  have hlt : ∀ x ∈ p, x.block < W.heap.size := fun x hx => by simpa using hW'.lt x (List.mem_append_left _ hx)
  refine (walk_FnExactStokesVector m W hG_zero hG_unit).mono fun e W' ⟨he, hb⟩ => ?_
  subst he
  refine ⟨_, rfl, _, _, _, [], p, q, hW', trodAll_mk1 (shut_bool Tryd.underlying4 _), trodAll_mk1 (Below.trod Tryd.laidOut (by kernel_rfl) (of_decide_eq_true (by kernel_rfl)) h0 hb (fun x hx => hlt x (by simp [hx]))), Below.trodVars Tryd.laidOut hb (by kernel_rfl) hV, hb.frame _, fun h => by cases h⟩
theorem said_FnExactStokesVector : Rows.FnExactStokesVectorSaid :=
  OpenClaim.holds_of_wide 6 Tryd.f6 rfl rfl rfl rfl rfl rfl rfl ⟨rfl, rfl, rfl, rfl, rfl⟩ rfl rfl rfl rfl rfl (by kernel_rfl) Tryd.func6 (by kernel_rfl)
    (of_decide_eq_true (by kernel_rfl)) (by unfold Func.isWrapper; first | (rw [if_pos (by decide +kernel)]; kernel_rfl) | (rw [if_neg (by decide +kernel)]; exact ⟨rfl, rfl⟩))
    (fun os started H enc _ => lifted_FnExactStokesVector os started H enc)
set_option maxRecDepth 100000 in
/-- THE STATEMENT: THE CARD. -/
theorem holds_FnExactStokesVector : Rows.FnExactStokesVectorCardSaid :=
  Claim7.holds_tied_plain_at .later [] [.data, .data] true (true, "4641a63997bae2f3f605d4183781842987cd6e93f60671f0fe7f4fb0ecf64798") false
    said_FnExactStokesVector (fun _ h => by cases h) (by kernel_rfl) (fun _ h => by cases h) fnExactStokesVector_row_tie rfl ⟨rfl, rfl⟩ (by kernel_rfl) rfl
    (fun f fn hf hfn => by
      obtain rfl : f = 6 := Option.some.inj ((show Tryd.prog.funcNamed "loop.example/polarisedlight/laws.FnExactStokesVector" = some 6 by kernel_rfl).symm.trans hf) |>.symm
      obtain rfl : fn = Tryd.f6 := (Option.some.inj (Tryd.func6.symm.trans hfn)).symm
      exact ⟨by kernel_rfl, fun j t ht => by
        rw [Tryd.params6] at ht
        have hm : t ∈ [45] := by simpa using Array.mem_of_getElem? ht
        have hall : ([45].all fun u => !Tryd.prog.wantsStandIn u) = true := by kernel_rfl
        exact (show Tryd.prog.wantsStandIn t = false by simpa using List.all_eq_true.1 hall t hm)⟩)
    (by kernel_rfl)
end Go.Proofs.YtmcokdiopcpifaaDoor
