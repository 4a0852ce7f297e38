/- The program's TableValid answers what the reference's answers, for all arguments. -/
import Derived.Test.YtjigckagmgilbaaO
import Derived.Test.YtjigckagmgilbaaG
import Derived.Test.YtjigckagmgilbaaMT
import Derived.Test.YtjigckagmgilbaaNT
namespace Go.Proofs.Ytjigckagmgilbaa
open Go.ChangeShapes Go.WideShapes Go.ChangeAt Go.RowKit Pol

theorem stablevalid_cc (m : M16) (w : World) :
    Calls Try.prog 18 #[.agg (cl m.get 16).toArray] w fun e w' => e = .returned (.bool (all16 realB m)) ∧ Below w.heap.size w w' :=
  (congrArg (fun c => Calls Try.prog 18 #[.agg c] w fun e w' => e = .returned (.bool (all16 realB m)) ∧ Below w.heap.size w w') (cl16 m)).mpr (stablevalid_any m w)
theorem itablevalid_cc (m : M16) (w : World) :
    Calls Try.prog 20 #[.agg (cl m.get 16).toArray] w fun e w' => e = .returned (.bool (all16 realB m)) ∧ Below w.heap.size w w' :=
  (congrArg (fun c => Calls Try.prog 20 #[.agg c] w fun e w' => e = .returned (.bool (all16 realB m)) ∧ Below w.heap.size w w') (cl16 m)).mpr (itablevalid_any m w)
set_option maxHeartbeats 2000000 in
theorem walk_cc (m : M16) (w : World) :
    Calls Try.prog 5 #[.agg (cl m.get 16).toArray] w fun e w' => e = .returned (.bool true) ∧ Below w.heap.size w w' := by
  have r0 : (w.alloc (.cells (cl m.get 16).toArray 43)).rangeAt w.heap.size 0 (cl m.get 16) := rangeAt_new _ _ _
  have R0 := Lib.hid r0; clear r0
  go_enter Try.func5, Try.ntmps5
  go_wp2_with ((with_reducible refine wpList_load_mid ?a1 43 ?ax ?a2 (w.heap.size) 0 ?a3 (cl m.get 16) ?ad ?a4 ?a5 ?a6 ?a7 ?a8); (case a2 => rfl); (case a1 => rfl); (case a3 => rfl); (case a4 => exact R0.out); (case a5 => exact Try.underlying43); (case a6 => rfl); (case a7 => kernel_rfl))
  refine (toTable_cc m _).mono ?_
  rintro e w1 ⟨rfl, hb1⟩
  have R1 := Lib.hid (rangeAt_below R0.out hb1 (by simp))
  have z1 : w.heap.size + 1 ≤ w1.heap.size := by have := hb1.size; simpa using this
  go_wp2_with fail
  refine (stablevalid_cc m _).mono ?_
  rintro e w2 ⟨rfl, hb2⟩
  have R2 := Lib.hid (rangeAt_below R1.out hb2 (by omega))
  have z2 : w.heap.size + 1 ≤ w2.heap.size := Nat.le_trans z1 hb2.size
  go_wp2_with ((with_reducible refine wpList_load_mid ?b1 43 ?bx ?b2 (w.heap.size) 0 ?b3 (cl m.get 16) ?bd ?b4 ?b5 ?b6 ?b7 ?b8); (case b2 => rfl); (case b1 => rfl); (case b3 => rfl); (case b4 => exact R2.out); (case b5 => exact Try.underlying43); (case b6 => rfl); (case b7 => kernel_rfl))
  refine (toTable_cc m _).mono ?_
  rintro e w3 ⟨rfl, hb3⟩
  go_wp2_with fail
  refine (itablevalid_cc m _).mono ?_
  rintro e w4 ⟨rfl, hb4⟩
  generalize all16 realB m = b
  cases b
  all_goals
    go_wp2
    go_ret
    exact ⟨rfl, by (repeat' first | exact Below.refl _ _ | apply bl_alloc | apply bl_drewN | apply bl_drew | refine bl_trans ?_ (by assumption) | refine bl_set ?_ (by first | omega | (simp <;> omega)) _)⟩
theorem walk_FnExactTableValid (m : M16) (w : World) :
    Calls Try.prog 5 #[.agg #[.int .i64 m.a.a.re, .int .i64 m.a.a.im, .int .i64 m.a.a.den, .int .i64 m.a.b.re, .int .i64 m.a.b.im, .int .i64 m.a.b.den, .int .i64 m.a.c.re, .int .i64 m.a.c.im, .int .i64 m.a.c.den, .int .i64 m.a.d.re, .int .i64 m.a.d.im, .int .i64 m.a.d.den, .int .i64 m.b.a.re, .int .i64 m.b.a.im, .int .i64 m.b.a.den, .int .i64 m.b.b.re, .int .i64 m.b.b.im, .int .i64 m.b.b.den, .int .i64 m.b.c.re, .int .i64 m.b.c.im, .int .i64 m.b.c.den, .int .i64 m.b.d.re, .int .i64 m.b.d.im, .int .i64 m.b.d.den, .int .i64 m.c.a.re, .int .i64 m.c.a.im, .int .i64 m.c.a.den, .int .i64 m.c.b.re, .int .i64 m.c.b.im, .int .i64 m.c.b.den, .int .i64 m.c.c.re, .int .i64 m.c.c.im, .int .i64 m.c.c.den, .int .i64 m.c.d.re, .int .i64 m.c.d.im, .int .i64 m.c.d.den, .int .i64 m.d.a.re, .int .i64 m.d.a.im, .int .i64 m.d.a.den, .int .i64 m.d.b.re, .int .i64 m.d.b.im, .int .i64 m.d.b.den, .int .i64 m.d.c.re, .int .i64 m.d.c.im, .int .i64 m.d.c.den, .int .i64 m.d.d.re, .int .i64 m.d.d.im, .int .i64 m.d.d.den]] w fun e w' => e = .returned (.bool true) ∧ Below w.heap.size w w' :=
  (congrArg (fun c => Calls Try.prog 5 #[.agg c] w fun e w' => e = .returned (.bool true) ∧ Below w.heap.size w w') (cl16 m)).mp (walk_cc m w)

set_option maxRecDepth 100000 in
theorem lifted_FnExactTableValid (os : Os) (started : os.Started) (H : Type) (enc : TypeId × Value → H) :
    ReturnsInHanded {} Try.checked os 5 .any (Rows.fnExactTableValidSpec.pre6 enc Try.prog Try.f5 Rows.fnExactTableValidRow.domain false) (Rows.fnExactTableValidSpec.post enc Try.prog Try.f5 false true false false) := by
  refine returnsInHanded_of_change (C := Try.checked) Try.own started (by kernel_rfl) Try.func5
    (ChangeSpec.witness6 (enc := enc) (C := Try.checked) false ⟨#[], #[.agg #[.int .i64 0, .int .i64 0, .int .i64 0, .int .i64 0, .int .i64 0, .int .i64 0, .int .i64 0, .int .i64 0, .int .i64 0, .int .i64 0, .int .i64 0, .int .i64 0, .int .i64 0, .int .i64 0, .int .i64 0, .int .i64 0, .int .i64 0, .int .i64 0, .int .i64 0, .int .i64 0, .int .i64 0, .int .i64 0, .int .i64 0, .int .i64 0, .int .i64 0, .int .i64 0, .int .i64 0, .int .i64 0, .int .i64 0, .int .i64 0, .int .i64 0, .int .i64 0, .int .i64 0, .int .i64 0, .int .i64 0, .int .i64 0, .int .i64 0, .int .i64 0, .int .i64 0, .int .i64 0, .int .i64 0, .int .i64 0, .int .i64 0, .int .i64 0, .int .i64 0, .int .i64 0, .int .i64 0, .int .i64 0]], []⟩ 8 (by kernel_rfl) (by kernel_rfl) (by kernel_rfl) (by kernel_rfl)) ?_
  intro W base args ds gs before hval0 hW hcnd _
  have hval : ∀ (j : Nat) t v, Try.f5.params[j]? = some t → args[j]? = some v → Value.okWide Try.prog W .any base t v := hval0
  have hW' := hW
  obtain ⟨p, q, hA0, hV, rfl, hfz, hnd⟩ := hW
  have hA : DataW.TrodAll enc Try.prog W 0 (fun _ => true) true Try.f5.params.toList args.toList ds p := hA0
  rw [Try.params5] at hA hval
  obtain ⟨v0, d0, rfl, rfl, h0⟩ := trodAll_one hA
  obtain ⟨rfl, rfl⟩ := trodVars_none hV
  obtain ⟨m, rfl⟩ := open_t16 (hval 0 43 v0 rfl rfl)
  clear hA0 hval0
  simp only [List.append_nil] at hW'
  have hlt : ∀ x ∈ p, x.block < W.heap.size := fun x hx => by simpa using hW'.lt x hx
  refine (walk_FnExactTableValid m W).mono fun e W' ⟨he, hb⟩ => ?_
  subst he
  refine ⟨_, rfl, _, _, _, [], p, [], hW', trodAll_mk1 (shut_bool Try.underlying4 _), trodAll_mk1 (Below.trod Try.laidOut (by kernel_rfl) (of_decide_eq_true (by kernel_rfl)) h0 hb (fun x hx => hlt x (by simp [hx]))), rfl, hb.frame _, fun h => by cases h⟩

/-- THE STATEMENT. -/
theorem holds_FnExactTableValid : Rows.FnExactTableValidSaid :=
  OpenClaim.holds_of_wide 5 Try.f5 rfl rfl rfl rfl rfl rfl rfl ⟨rfl, rfl, rfl, rfl, rfl⟩ rfl rfl rfl rfl rfl (by kernel_rfl) Try.func5 (by kernel_rfl)
    (of_decide_eq_true (by kernel_rfl)) (by unfold Func.isWrapper; first | (rw [if_pos (by decide +kernel)]; kernel_rfl) | (rw [if_neg (by decide +kernel)]; exact ⟨rfl, rfl⟩))
    (fun os started H enc _ => lifted_FnExactTableValid os started H enc)
end Go.Proofs.Ytjigckagmgilbaa
