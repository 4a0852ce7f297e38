/- The program's MatFilter answers what the reference's answers, for all arguments. -/
import Derived.Test.YtjigckagmgilbaaO
import Derived.Test.YtjigckagmgilbaaZ2
import Derived.Test.YtjigckagmgilbaaM
namespace Go.Proofs.Ytjigckagmgilbaa
open Go.ChangeShapes Go.WideShapes Go.ChangeAt Go.RowKit Pol

set_option maxRecDepth 100000 in
set_option maxHeartbeats 4000000 in
theorem walk_FnExactMatFilter (p : Int) (q : Int) (_wp : (Lit.int .i64 p).wf = true) (_wq : (Lit.int .i64 q).wf = true) (w : World) :
    Calls Try.prog 11 #[.int .i64 p, .int .i64 q] w fun e w' => e = .returned (.bool true) ∧ Below w.heap.size w w' := by
  go_enter Try.func11, Try.ntmps11
  go_wp2_with fail
  refine (sfil_any p q _).mono ?_
  rintro e w1 ho
  obtain ⟨rfl, hb⟩ := ho.fn
  have hz := hb.size
  (try simp at hz)
  have HB := Lib.hid (show Below w.heap.size w w1 from by (repeat' first | exact Below.refl _ _ | apply bl_alloc | apply bl_drewN | apply bl_drew | refine bl_trans ?_ (by assumption) | refine bl_set ?_ (by first | omega | (simp <;> omega)) _))
  clear ho hb
  go_wp2_with fail
  refine (ifil_any p q _).mono ?_
  rintro e w2 ho
  obtain ⟨rfl, hb⟩ := ho.fn
  have kc0 := fun o => hb.cell (p := ⟨w1.heap.size, o, none⟩) (by show w1.heap.size < _; first | omega | (simp <;> omega))
  have hz := hb.size
  (try simp at hz)
  have kl0 : w1.heap.size < w2.heap.size := by omega
  have kn0 : ¬ w1.heap.size = w2.heap.size := by omega
  have km0 : ¬ w2.heap.size = w1.heap.size := by omega
  have HB := Lib.hid (show Below w.heap.size w w2 from by exact HB.out.trans ((show Below _ _ _ from ((Below.refl _ _).alloc (by omega) _)).trans (hb.mono (by first | omega | (simp <;> omega)))))
  clear ho hb
  go_wp2_with fail
  refine (eqMat_same _ _).mono ?_
  rintro e w3 ho
  obtain ⟨rfl, hb⟩ := (id ho)
  have hz := hb.size
  (try simp at hz)
  have HB := Lib.hid (show Below w.heap.size w w3 from by exact HB.out.trans ((show Below _ _ _ from ((Below.refl _ _).alloc (by omega) _)).trans (hb.mono (by first | omega | (simp <;> omega)))))
  clear ho hb
  go_wp2
  go_ret
  exact ⟨rfl, HB.out⟩

set_option maxRecDepth 100000 in
theorem lifted_FnExactMatFilter (os : Os) (started : os.Started) (H : Type) (enc : TypeId × Value → H) :
    ReturnsInHanded {} Try.checked os 11 .any (Rows.fnExactMatFilterSpec.pre6 enc Try.prog Try.f11 Rows.fnExactMatFilterRow.domain false) (Rows.fnExactMatFilterSpec.post enc Try.prog Try.f11 false true false false) := by
  refine returnsInHanded_of_change (C := Try.checked) Try.own started (by kernel_rfl) Try.func11
    (ChangeSpec.witness6 (enc := enc) (C := Try.checked) false ⟨#[], #[.int .i64 0, .int .i64 0], []⟩ 8 (by kernel_rfl) (by kernel_rfl) (by kernel_rfl) (by kernel_rfl)) ?_
  intro W base args ds gs before hval0 hW hcnd _
  have hval : ∀ (j : Nat) t v, Try.f11.params[j]? = some t → args[j]? = some v → Value.okWide Try.prog W .any base t v := hval0
  have hW' := hW
  obtain ⟨p, q, hA0, hV, rfl, hfz, hnd⟩ := hW
  have hA : DataW.TrodAll enc Try.prog W 0 (fun _ => true) true Try.f11.params.toList args.toList ds p := hA0
  rw [Try.params11] at hA hval
  obtain ⟨v0, v1, d0, d1, p0, p1, rfl, rfl, rfl, h0, h1⟩ := trodAll_two hA
  obtain ⟨rfl, rfl⟩ := trodVars_none hV
  obtain ⟨p, rfl, rfl, rfl, wp⟩ := open_int Try.underlying3 (hval 0 3 v0 rfl rfl) h0
  obtain ⟨q, rfl, rfl, rfl, wq⟩ := open_int Try.underlying3 (hval 1 3 v1 rfl rfl) h1
  clear hA0 hval0
  simp only [List.append_nil] at hW'
  refine (walk_FnExactMatFilter p q wp wq W).mono fun e W' ⟨he, hb⟩ => ?_
  subst he
  refine ⟨_, rfl, _, _, _, [], ([] ++ []), [], hW', trodAll_mk1 (shut_bool Try.underlying4 _), trodAll_mk2 (shut_int Try.underlying3 wp) (shut_int Try.underlying3 wq), rfl, hb.frame _, fun h => by cases h⟩

/-- THE STATEMENT. -/
theorem holds_FnExactMatFilter : Rows.FnExactMatFilterSaid :=
  OpenClaim.holds_of_wide 11 Try.f11 rfl rfl rfl rfl rfl rfl rfl ⟨rfl, rfl, rfl, rfl, rfl⟩ rfl rfl rfl rfl rfl (by kernel_rfl) Try.func11 (by kernel_rfl)
    (of_decide_eq_true (by kernel_rfl)) (by unfold Func.isWrapper; first | (rw [if_pos (by decide +kernel)]; kernel_rfl) | (rw [if_neg (by decide +kernel)]; exact ⟨rfl, rfl⟩))
    (fun os started H enc _ => lifted_FnExactMatFilter os started H enc)
end Go.Proofs.Ytjigckagmgilbaa
