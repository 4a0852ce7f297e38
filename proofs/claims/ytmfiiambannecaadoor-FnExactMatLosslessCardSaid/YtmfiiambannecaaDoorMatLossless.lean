/- The program's MatLossless answers what the reference's answers, for all arguments. The row lists package-level variables, and the card ties them to the text of the program: the pruned copy of the project that the seat holds. -/
import Derived.Test.YtmfiiambannecaaDoorO
import Derived.Test.YtmfiiambannecaaDoorPV
import Derived.Test.YtmfiiambannecaaDoorTie
import Derived.Test.YtmfiiambannecaaDoorCards
import Derived.SevenTiedAt
import Derived.Test.YtmfiiambannecaaDoorML
import Derived.Test.YtmfiiambannecaaDoorM
namespace Go.Proofs.YtmfiiambannecaaDoor
open Go.ChangeShapes Go.WideShapes Go.ChangeAt Go.RowKit Pol

set_option maxRecDepth 100000 in
set_option maxHeartbeats 8000000 in
theorem walk_FnExactMatLossless (m : M4) (w : World) (hg_same : Gat w 0 mSame.get 4) :
    Calls Tryd.prog 3 #[.agg #[.int .i64 m.a.re, .int .i64 m.a.im, .int .i64 m.a.den, .int .i64 m.b.re, .int .i64 m.b.im, .int .i64 m.b.den, .int .i64 m.c.re, .int .i64 m.c.im, .int .i64 m.c.den, .int .i64 m.d.re, .int .i64 m.d.im, .int .i64 m.d.den]] w (fun e w' => e = .returned (.bool true) ∧ Below w.heap.size w w') := by
  cases hm : gLos m
  · skip
    have HB : Hid (Below w.heap.size w w) := Below.refl _ _
    have HG_same := Lib.hid hg_same; clear hg_same
    go_enter Tryd.func3, Tryd.ntmps3
    go_wp2_with (first | ((with_reducible refine wpList_load_mid ?kl11 26 ?kl1x ?kl12 (w.heap.size) 0 ?kl13 [.int .i64 m.a.re, .int .i64 m.a.im, .int .i64 m.a.den, .int .i64 m.b.re, .int .i64 m.b.im, .int .i64 m.b.den, .int .i64 m.c.re, .int .i64 m.c.im, .int .i64 m.c.den, .int .i64 m.d.re, .int .i64 m.d.im, .int .i64 m.d.den] ?kl1d ?kl14 ?kl15 ?kl16 ?kl17 ?kl18); (case kl12 => rfl); (case kl11 => rfl); (case kl13 => rfl); (case kl14 => (exact (rangeAt_new _ _ _))); (case kl15 => exact Tryd.underlying26); (case kl16 => rfl); (case kl17 => kernel_rfl)))
    refine (toMat_any m _).mono ?_
    rintro e w1 ho
    obtain ⟨rfl, hb⟩ : e = .returned (.agg #[.int .i64 m.a.re, .int .i64 m.a.im, .int .i64 m.a.den, .int .i64 m.b.re, .int .i64 m.b.im, .int .i64 m.b.den, .int .i64 m.c.re, .int .i64 m.c.im, .int .i64 m.c.den, .int .i64 m.d.re, .int .i64 m.d.im, .int .i64 m.d.den]) ∧ Below _ _ _ := (id ho)
    clear ho
    have HB := Lib.hid (show Below w.heap.size w w1 from HB.out.trans ((show Below _ _ _ from ((Below.refl _ _).alloc (by first | omega | (simp; done) | (simp <;> omega)) _)).trans (hb.mono (by first | omega | (simp <;> omega)))))
    have Hm : Hid (w1.rangeAt (w.heap.size) 0 [.int .i64 m.a.re, .int .i64 m.a.im, .int .i64 m.a.den, .int .i64 m.b.re, .int .i64 m.b.im, .int .i64 m.b.den, .int .i64 m.c.re, .int .i64 m.c.im, .int .i64 m.c.den, .int .i64 m.d.re, .int .i64 m.d.im, .int .i64 m.d.den]) := rangeAt_below (rangeAt_new _ _ _) hb (by first | omega | (simp; done) | (simp <;> omega))
    have hz1 := hb.size
    (try simp at hz1)
    clear hb
    have nA0 : w.heap.size < w1.heap.size := by omega
    have nB0 : ¬ w.heap.size = w1.heap.size := by omega
    have nC0 : ¬ w1.heap.size = w.heap.size := by omega
    go_wp2_with fail
    refine (slos_any m _).mono ?_
    rintro e w2 ⟨rfl, hb⟩
    rw [hm]
    have HB := Lib.hid (show Below w.heap.size w w2 from HB.out.trans ((show Below _ _ _ from (Below.refl _ _)).trans (hb.mono (by first | omega | (simp <;> omega)))))
    have Hm : Hid (w2.rangeAt (w.heap.size) 0 [.int .i64 m.a.re, .int .i64 m.a.im, .int .i64 m.a.den, .int .i64 m.b.re, .int .i64 m.b.im, .int .i64 m.b.den, .int .i64 m.c.re, .int .i64 m.c.im, .int .i64 m.c.den, .int .i64 m.d.re, .int .i64 m.d.im, .int .i64 m.d.den]) := rangeAt_below Hm.out hb (by first | omega | (simp; done) | (simp <;> omega))
    have hz2 := hb.size
    (try simp at hz2)
    clear hb
    have nA0 : w.heap.size < w2.heap.size := by omega
    have nB0 : ¬ w.heap.size = w2.heap.size := by omega
    have nC0 : ¬ w2.heap.size = w.heap.size := by omega
    go_wp2_with (first | ((with_reducible refine wpList_load_mid ?kl21 26 ?kl2x ?kl22 (w.heap.size) 0 ?kl23 [.int .i64 m.a.re, .int .i64 m.a.im, .int .i64 m.a.den, .int .i64 m.b.re, .int .i64 m.b.im, .int .i64 m.b.den, .int .i64 m.c.re, .int .i64 m.c.im, .int .i64 m.c.den, .int .i64 m.d.re, .int .i64 m.d.im, .int .i64 m.d.den] ?kl2d ?kl24 ?kl25 ?kl26 ?kl27 ?kl28); (case kl22 => rfl); (case kl21 => rfl); (case kl23 => rfl); (case kl24 => (exact Hm.out)); (case kl25 => exact Tryd.underlying26); (case kl26 => rfl); (case kl27 => kernel_rfl)))
    refine (toMat_any m _).mono ?_
    rintro e w3 ho
    obtain ⟨rfl, hb⟩ : e = .returned (.agg #[.int .i64 m.a.re, .int .i64 m.a.im, .int .i64 m.a.den, .int .i64 m.b.re, .int .i64 m.b.im, .int .i64 m.b.den, .int .i64 m.c.re, .int .i64 m.c.im, .int .i64 m.c.den, .int .i64 m.d.re, .int .i64 m.d.im, .int .i64 m.d.den]) ∧ Below _ _ _ := (id ho)
    clear ho
    have HB := Lib.hid (show Below w.heap.size w w3 from HB.out.trans ((show Below _ _ _ from (Below.refl _ _)).trans (hb.mono (by first | omega | (simp <;> omega)))))
    have Hm : Hid (w3.rangeAt (w.heap.size) 0 [.int .i64 m.a.re, .int .i64 m.a.im, .int .i64 m.a.den, .int .i64 m.b.re, .int .i64 m.b.im, .int .i64 m.b.den, .int .i64 m.c.re, .int .i64 m.c.im, .int .i64 m.c.den, .int .i64 m.d.re, .int .i64 m.d.im, .int .i64 m.d.den]) := rangeAt_below Hm.out hb (by first | omega | (simp; done) | (simp <;> omega))
    have hz3 := hb.size
    (try simp at hz3)
    clear hb
    have nA0 : w.heap.size < w3.heap.size := by omega
    have nB0 : ¬ w.heap.size = w3.heap.size := by omega
    have nC0 : ¬ w3.heap.size = w.heap.size := by omega
    go_wp2_with fail
    refine (ilos_any m _ (HG_same.out.below HB.out)).mono ?_
    rintro e w4 ⟨rfl, hb⟩
    rw [hm]
    have HB := Lib.hid (show Below w.heap.size w w4 from HB.out.trans ((show Below _ _ _ from (Below.refl _ _)).trans (hb.mono (by first | omega | (simp <;> omega)))))
    have Hm : Hid (w4.rangeAt (w.heap.size) 0 [.int .i64 m.a.re, .int .i64 m.a.im, .int .i64 m.a.den, .int .i64 m.b.re, .int .i64 m.b.im, .int .i64 m.b.den, .int .i64 m.c.re, .int .i64 m.c.im, .int .i64 m.c.den, .int .i64 m.d.re, .int .i64 m.d.im, .int .i64 m.d.den]) := rangeAt_below Hm.out hb (by first | omega | (simp; done) | (simp <;> omega))
    have hz4 := hb.size
    (try simp at hz4)
    clear hb
    have nA0 : w.heap.size < w4.heap.size := by omega
    have nB0 : ¬ w.heap.size = w4.heap.size := by omega
    have nC0 : ¬ w4.heap.size = w.heap.size := by omega
    go_wp2_with fail
    go_ret
    exact ⟨rfl, (by (repeat' first | (with_reducible exact HB.out) | with_reducible refine setCells_below _ _ _ ?_ (by first | omega | (simp <;> omega)) | with_reducible refine Below.setCell ?_ (by show _ ≤ _; first | omega | (simp <;> omega) | simp) _ | with_reducible refine Below.alloc ?_ (by first | omega | (simp <;> omega)) _ | with_reducible apply Below.drew | with_reducible refine below_drewN ?_ _))⟩
  · skip
    have HB : Hid (Below w.heap.size w w) := Below.refl _ _
    have HG_same := Lib.hid hg_same; clear hg_same
    go_enter Tryd.func3, Tryd.ntmps3
    go_wp2_with (first | ((with_reducible refine wpList_load_mid ?kl31 26 ?kl3x ?kl32 (w.heap.size) 0 ?kl33 [.int .i64 m.a.re, .int .i64 m.a.im, .int .i64 m.a.den, .int .i64 m.b.re, .int .i64 m.b.im, .int .i64 m.b.den, .int .i64 m.c.re, .int .i64 m.c.im, .int .i64 m.c.den, .int .i64 m.d.re, .int .i64 m.d.im, .int .i64 m.d.den] ?kl3d ?kl34 ?kl35 ?kl36 ?kl37 ?kl38); (case kl32 => rfl); (case kl31 => rfl); (case kl33 => rfl); (case kl34 => (exact (rangeAt_new _ _ _))); (case kl35 => exact Tryd.underlying26); (case kl36 => rfl); (case kl37 => kernel_rfl)))
    refine (toMat_any m _).mono ?_
    rintro e w1 ho
    obtain ⟨rfl, hb⟩ : e = .returned (.agg #[.int .i64 m.a.re, .int .i64 m.a.im, .int .i64 m.a.den, .int .i64 m.b.re, .int .i64 m.b.im, .int .i64 m.b.den, .int .i64 m.c.re, .int .i64 m.c.im, .int .i64 m.c.den, .int .i64 m.d.re, .int .i64 m.d.im, .int .i64 m.d.den]) ∧ Below _ _ _ := (id ho)
    clear ho
    have HB := Lib.hid (show Below w.heap.size w w1 from HB.out.trans ((show Below _ _ _ from ((Below.refl _ _).alloc (by first | omega | (simp; done) | (simp <;> omega)) _)).trans (hb.mono (by first | omega | (simp <;> omega)))))
    have Hm : Hid (w1.rangeAt (w.heap.size) 0 [.int .i64 m.a.re, .int .i64 m.a.im, .int .i64 m.a.den, .int .i64 m.b.re, .int .i64 m.b.im, .int .i64 m.b.den, .int .i64 m.c.re, .int .i64 m.c.im, .int .i64 m.c.den, .int .i64 m.d.re, .int .i64 m.d.im, .int .i64 m.d.den]) := rangeAt_below (rangeAt_new _ _ _) hb (by first | omega | (simp; done) | (simp <;> omega))
    have hz1 := hb.size
    (try simp at hz1)
    clear hb
    have nA0 : w.heap.size < w1.heap.size := by omega
    have nB0 : ¬ w.heap.size = w1.heap.size := by omega
    have nC0 : ¬ w1.heap.size = w.heap.size := by omega
    go_wp2_with fail
    refine (slos_any m _).mono ?_
    rintro e w2 ⟨rfl, hb⟩
    rw [hm]
    have HB := Lib.hid (show Below w.heap.size w w2 from HB.out.trans ((show Below _ _ _ from (Below.refl _ _)).trans (hb.mono (by first | omega | (simp <;> omega)))))
    have Hm : Hid (w2.rangeAt (w.heap.size) 0 [.int .i64 m.a.re, .int .i64 m.a.im, .int .i64 m.a.den, .int .i64 m.b.re, .int .i64 m.b.im, .int .i64 m.b.den, .int .i64 m.c.re, .int .i64 m.c.im, .int .i64 m.c.den, .int .i64 m.d.re, .int .i64 m.d.im, .int .i64 m.d.den]) := rangeAt_below Hm.out hb (by first | omega | (simp; done) | (simp <;> omega))
    have hz2 := hb.size
    (try simp at hz2)
    clear hb
    have nA0 : w.heap.size < w2.heap.size := by omega
    have nB0 : ¬ w.heap.size = w2.heap.size := by omega
    have nC0 : ¬ w2.heap.size = w.heap.size := by omega
    go_wp2_with (first | ((with_reducible refine wpList_load_mid ?kl41 26 ?kl4x ?kl42 (w.heap.size) 0 ?kl43 [.int .i64 m.a.re, .int .i64 m.a.im, .int .i64 m.a.den, .int .i64 m.b.re, .int .i64 m.b.im, .int .i64 m.b.den, .int .i64 m.c.re, .int .i64 m.c.im, .int .i64 m.c.den, .int .i64 m.d.re, .int .i64 m.d.im, .int .i64 m.d.den] ?kl4d ?kl44 ?kl45 ?kl46 ?kl47 ?kl48); (case kl42 => rfl); (case kl41 => rfl); (case kl43 => rfl); (case kl44 => (exact Hm.out)); (case kl45 => exact Tryd.underlying26); (case kl46 => rfl); (case kl47 => kernel_rfl)))
    refine (toMat_any m _).mono ?_
    rintro e w3 ho
    obtain ⟨rfl, hb⟩ : e = .returned (.agg #[.int .i64 m.a.re, .int .i64 m.a.im, .int .i64 m.a.den, .int .i64 m.b.re, .int .i64 m.b.im, .int .i64 m.b.den, .int .i64 m.c.re, .int .i64 m.c.im, .int .i64 m.c.den, .int .i64 m.d.re, .int .i64 m.d.im, .int .i64 m.d.den]) ∧ Below _ _ _ := (id ho)
    clear ho
    have HB := Lib.hid (show Below w.heap.size w w3 from HB.out.trans ((show Below _ _ _ from (Below.refl _ _)).trans (hb.mono (by first | omega | (simp <;> omega)))))
    have Hm : Hid (w3.rangeAt (w.heap.size) 0 [.int .i64 m.a.re, .int .i64 m.a.im, .int .i64 m.a.den, .int .i64 m.b.re, .int .i64 m.b.im, .int .i64 m.b.den, .int .i64 m.c.re, .int .i64 m.c.im, .int .i64 m.c.den, .int .i64 m.d.re, .int .i64 m.d.im, .int .i64 m.d.den]) := rangeAt_below Hm.out hb (by first | omega | (simp; done) | (simp <;> omega))
    have hz3 := hb.size
    (try simp at hz3)
    clear hb
    have nA0 : w.heap.size < w3.heap.size := by omega
    have nB0 : ¬ w.heap.size = w3.heap.size := by omega
    have nC0 : ¬ w3.heap.size = w.heap.size := by omega
    go_wp2_with fail
    refine (ilos_any m _ (HG_same.out.below HB.out)).mono ?_
    rintro e w4 ⟨rfl, hb⟩
    rw [hm]
    have HB := Lib.hid (show Below w.heap.size w w4 from HB.out.trans ((show Below _ _ _ from (Below.refl _ _)).trans (hb.mono (by first | omega | (simp <;> omega)))))
    have Hm : Hid (w4.rangeAt (w.heap.size) 0 [.int .i64 m.a.re, .int .i64 m.a.im, .int .i64 m.a.den, .int .i64 m.b.re, .int .i64 m.b.im, .int .i64 m.b.den, .int .i64 m.c.re, .int .i64 m.c.im, .int .i64 m.c.den, .int .i64 m.d.re, .int .i64 m.d.im, .int .i64 m.d.den]) := rangeAt_below Hm.out hb (by first | omega | (simp; done) | (simp <;> omega))
    have hz4 := hb.size
    (try simp at hz4)
    clear hb
    have nA0 : w.heap.size < w4.heap.size := by omega
    have nB0 : ¬ w.heap.size = w4.heap.size := by omega
    have nC0 : ¬ w4.heap.size = w.heap.size := by omega
    go_wp2_with fail
    go_ret
    exact ⟨rfl, (by (repeat' first | (with_reducible exact HB.out) | with_reducible refine setCells_below _ _ _ ?_ (by first | omega | (simp <;> omega)) | with_reducible refine Below.setCell ?_ (by show _ ≤ _; first | omega | (simp <;> omega) | simp) _ | with_reducible refine Below.alloc ?_ (by first | omega | (simp <;> omega)) _ | with_reducible apply Below.drew | with_reducible refine below_drewN ?_ _))⟩

set_option maxRecDepth 100000 in
theorem door_FnExactMatLossless (os : Os) (args : Array Value) : laidMetH Tryd.prog Rows.fnExactMatLosslessRow.laid ((World.doorLaid Tryd.prog 43 os).forCall (fun _ _ => 0) ⟨#[], args, []⟩).memory :=
  laidMetH_of_parts3 (fuel := 8) (laidMet_of_run' 8 (by kernel_rfl) (by kernel_rfl)) (by kernel_rfl) (by kernel_rfl)
set_option maxRecDepth 100000 in
theorem lifted_FnExactMatLossless (os : Os) (started : os.Started) (H : Type) (enc : TypeId × Value → H) :
    ReturnsInHanded {} Tryd.checked os 3 .any (fun w args => (Rows.fnExactMatLosslessSpec.pre enc Tryd.prog Tryd.f3 [] false w args ∧ laidMetH Tryd.prog Rows.fnExactMatLosslessRow.laid w) ∧ sizedMet enc Tryd.prog Tryd.f3 (OpenSpec.ofChange Rows.fnExactMatLosslessSpec) false w args) (Rows.fnExactMatLosslessSpec.post enc Tryd.prog Tryd.f3 false true false false) := by
  refine returnsInHanded_of_change_and (C := Tryd.checked) (X := fun w _ => laidMetH Tryd.prog Rows.fnExactMatLosslessRow.laid w) (fun _ _ _ hh h => h.of_heap hh) Tryd.own started (by kernel_rfl) Tryd.func3
    (ChangeSpec.witness_shaped (enc := enc) (C := Tryd.checked) (os := os) (X := fun w _ => laidMetH Tryd.prog Rows.fnExactMatLosslessRow.laid w) false (World.doorLaid Tryd.prog 43 os) #[.agg #[.int .i64 0, .int .i64 0, .int .i64 0, .int .i64 0, .int .i64 0, .int .i64 0, .int .i64 0, .int .i64 0, .int .i64 0, .int .i64 0, .int .i64 0, .int .i64 0]] 8 rfl (World.shaped_of_RefB (by kernel_rfl) (by kernel_rfl)) (by kernel_rfl) (by kernel_rfl) (by kernel_rfl) (door_FnExactMatLossless os _)) ?_
  intro W base args ds gs before hval0 hW _ _ hL _
  have hval : ∀ (j : Nat) t v, Tryd.f3.params[j]? = some t → args[j]? = some v → Value.okWide Tryd.prog W .any base t v := hval0
  have hW' := hW
  obtain ⟨p, q, hA0, hV, rfl, hfz, hnd⟩ := hW
  have hA : DataW.TrodAll enc Tryd.prog W 0 (fun _ => true) true Tryd.f3.params.toList args.toList ds p := hA0
  rw [Tryd.params3] at hA hval
  obtain ⟨v0, d0, rfl, rfl, h0⟩ := trodAll_one hA
  obtain ⟨g0, rfl⟩ := len1 (vars_len hV)
  have hG_same := gat_same hL (by decide) (by simp [Rows.fnExactMatLosslessRow, Rows.laid_loop_example_polarisedlight_impl_same])
  obtain ⟨m, rfl⟩ := open_m4 (hval 0 26 v0 rfl rfl)
  clear hA0 hval0
  have hlt : ∀ x ∈ p, x.block < W.heap.size := fun x hx => by simpa using hW'.lt x (List.mem_append_left _ hx)
  refine (walk_FnExactMatLossless m W hG_same).mono fun e W' ⟨he, hb⟩ => ?_
  subst he
  refine ⟨_, rfl, _, _, _, [], p, q, hW', trodAll_mk1 (shut_bool Tryd.underlying4 _), trodAll_mk1 (Below.trod Tryd.laidOut (by kernel_rfl) (of_decide_eq_true (by kernel_rfl)) h0 hb (fun x hx => hlt x (by simp [hx]))), Below.trodVars Tryd.laidOut hb (by kernel_rfl) hV, hb.frame _, fun h => by cases h⟩
theorem said_FnExactMatLossless : Rows.FnExactMatLosslessSaid :=
  OpenClaim.holds_of_wide 3 Tryd.f3 rfl rfl rfl rfl rfl rfl rfl ⟨rfl, rfl, rfl, rfl, rfl⟩ rfl rfl rfl rfl rfl (by kernel_rfl) Tryd.func3 (by kernel_rfl)
    (of_decide_eq_true (by kernel_rfl)) (by unfold Func.isWrapper; first | (rw [if_pos (by decide +kernel)]; kernel_rfl) | (rw [if_neg (by decide +kernel)]; exact ⟨rfl, rfl⟩))
    (fun os started H enc _ => lifted_FnExactMatLossless os started H enc)
set_option maxRecDepth 100000 in
/-- THE STATEMENT: THE CARD. -/
theorem holds_FnExactMatLossless : Rows.FnExactMatLosslessCardSaid :=
  Claim7.holds_tied_plain_at .later [] [.data] true (true, "97cf94f10c537c43f0a2fe34d9d4df8735f8a51c888db8468cbe64db7c82f4c0") false
    said_FnExactMatLossless (fun _ h => by cases h) (by kernel_rfl) (fun _ h => by cases h) fnExactMatLossless_row_tie rfl ⟨rfl, rfl⟩ (by kernel_rfl) rfl
    (fun f fn hf hfn => by
      obtain rfl : f = 3 := Option.some.inj ((show Tryd.prog.funcNamed "loop.example/polarisedlight/laws.FnExactMatLossless" = some 3 by kernel_rfl).symm.trans hf) |>.symm
      obtain rfl : fn = Tryd.f3 := (Option.some.inj (Tryd.func3.symm.trans hfn)).symm
      exact ⟨by kernel_rfl, fun j t ht => by
        rw [Tryd.params3] at ht
        have hm : t ∈ [26] := by simpa using Array.mem_of_getElem? ht
        have hall : ([26].all fun u => !Tryd.prog.wantsStandIn u) = true := by kernel_rfl
        exact (show Tryd.prog.wantsStandIn t = false by simpa using List.all_eq_true.1 hall t hm)⟩)
    (by kernel_rfl)
end Go.Proofs.YtmfiiambannecaaDoor
