/- The program's StokesOf answers what the reference's answers, for all arguments. -/
import Derived.Test.YtmfiiambannecaaO
import Derived.Test.YtmfiiambannecaaSF
import Derived.Test.YtmfiiambannecaaSG
import Derived.Test.YtmfiiambannecaaM
namespace Go.Proofs.Ytmfiiambannecaa
open Go.ChangeShapes Go.WideShapes Go.ChangeAt Go.RowKit Pol

set_option maxRecDepth 100000 in
set_option maxHeartbeats 4000000 in
theorem walk_FnExactStokesOf (m : J2)  (w : World) :
    Calls Try.prog 11 #[.agg #[.int .i64 m.x.re, .int .i64 m.x.im, .int .i64 m.x.den, .int .i64 m.y.re, .int .i64 m.y.im, .int .i64 m.y.den]] w fun e w' => e = .returned (.bool true) ∧ Below w.heap.size w w' := by
  go_enter Try.func11, Try.ntmps11
  go_wp2_with fail
  refine (toJones_any m _).mono ?_
  rintro e w1 ho
  obtain ⟨rfl, hb⟩ := (id ho)
  have kc0 := fun o => hb.cell (p := ⟨w.heap.size, o, none⟩) (by show w.heap.size < _; first | omega | (simp <;> omega))
  have hz := hb.size
  (try simp at hz)
  have kl0 : w.heap.size < w1.heap.size := by omega
  have kn0 : ¬ w.heap.size = w1.heap.size := by omega
  have km0 : ¬ w1.heap.size = w.heap.size := by omega
  have HB := Lib.hid (show Below w.heap.size w w1 from by (repeat' first | exact Below.refl _ _ | apply bl_alloc | apply bl_drewN | apply bl_drew | refine bl_trans ?_ (by assumption) | refine bl_set ?_ (by first | omega | (simp <;> omega)) _))
  clear ho hb
  go_wp2_with fail
  refine (spsof_any m _).mono ?_
  rintro e w2 ho
  obtain ⟨rfl, hb⟩ := ho.fn
  have kc0 := fun o => hb.cell (p := ⟨w.heap.size, o, none⟩) (by show w.heap.size < _; first | omega | (simp <;> omega))
  have hz := hb.size
  (try simp at hz)
  have kl0 : w.heap.size < w2.heap.size := by omega
  have kn0 : ¬ w.heap.size = w2.heap.size := by omega
  have km0 : ¬ w2.heap.size = w.heap.size := by omega
  have HB := Lib.hid (show Below w.heap.size w w2 from by exact HB.out.trans ((show Below _ _ _ from (Below.refl _ _)).trans (hb.mono (by first | omega | (simp <;> omega)))))
  clear ho hb
  go_wp2_with fail
  refine (toJones_any m _).mono ?_
  rintro e w3 ho
  obtain ⟨rfl, hb⟩ := (id ho)
  have kc0 := fun o => hb.cell (p := ⟨w.heap.size, o, none⟩) (by show w.heap.size < _; first | omega | (simp <;> omega))
  have kc1 := fun o => hb.cell (p := ⟨w2.heap.size, o, none⟩) (by show w2.heap.size < _; first | omega | (simp <;> omega))
  have hz := hb.size
  (try simp at hz)
  have kl0 : w.heap.size < w3.heap.size := by omega
  have kn0 : ¬ w.heap.size = w3.heap.size := by omega
  have km0 : ¬ w3.heap.size = w.heap.size := by omega
  have kl1 : w2.heap.size < w3.heap.size := by omega
  have kn1 : ¬ w2.heap.size = w3.heap.size := by omega
  have km1 : ¬ w3.heap.size = w2.heap.size := by omega
  have HB := Lib.hid (show Below w.heap.size w w3 from by exact HB.out.trans ((show Below _ _ _ from ((Below.refl _ _).alloc (by omega) _)).trans (hb.mono (by first | omega | (simp <;> omega)))))
  clear ho hb
  go_wp2_with fail
  refine (isof_any m _).mono ?_
  rintro e w4 ho
  obtain ⟨rfl, hb⟩ := ho.fn
  have kc0 := fun o => hb.cell (p := ⟨w.heap.size, o, none⟩) (by show w.heap.size < _; first | omega | (simp <;> omega))
  have kc1 := fun o => hb.cell (p := ⟨w2.heap.size, o, none⟩) (by show w2.heap.size < _; first | omega | (simp <;> omega))
  have hz := hb.size
  (try simp at hz)
  have kl0 : w.heap.size < w4.heap.size := by omega
  have kn0 : ¬ w.heap.size = w4.heap.size := by omega
  have km0 : ¬ w4.heap.size = w.heap.size := by omega
  have kl1 : w2.heap.size < w4.heap.size := by omega
  have kn1 : ¬ w2.heap.size = w4.heap.size := by omega
  have km1 : ¬ w4.heap.size = w2.heap.size := by omega
  have HB := Lib.hid (show Below w.heap.size w w4 from by exact HB.out.trans ((show Below _ _ _ from (Below.refl _ _)).trans (hb.mono (by first | omega | (simp <;> omega)))))
  clear ho hb
  go_wp2_with fail
  refine (eqStokes_same _ _).mono ?_
  rintro e w5 ho
  obtain ⟨rfl, hb⟩ := (id ho)
  have hz := hb.size
  (try simp at hz)
  have HB := Lib.hid (show Below w.heap.size w w5 from by exact HB.out.trans ((show Below _ _ _ from ((Below.refl _ _).alloc (by omega) _)).trans (hb.mono (by first | omega | (simp <;> omega)))))
  clear ho hb
  go_wp2
  go_ret
  exact ⟨rfl, HB.out⟩

set_option maxRecDepth 100000 in
theorem lifted_FnExactStokesOf (os : Os) (started : os.Started) (H : Type) (enc : TypeId × Value → H) :
    ReturnsInHanded {} Try.checked os 11 .any (Rows.fnExactStokesOfSpec.pre6 enc Try.prog Try.f11 Rows.fnExactStokesOfRow.domain false) (Rows.fnExactStokesOfSpec.post enc Try.prog Try.f11 false true false false) := by
  refine returnsInHanded_of_change (C := Try.checked) Try.own started (by kernel_rfl) Try.func11
    (ChangeSpec.witness6 (enc := enc) (C := Try.checked) false ⟨#[], #[.agg #[.int .i64 0, .int .i64 0, .int .i64 0, .int .i64 0, .int .i64 0, .int .i64 0]], []⟩ 8 (by kernel_rfl) (by kernel_rfl) (by kernel_rfl) (by kernel_rfl)) ?_
  intro W base args ds gs before hval0 hW hcnd _
  have hval : ∀ (j : Nat) t v, Try.f11.params[j]? = some t → args[j]? = some v → Value.okWide Try.prog W .any base t v := hval0
  have hW' := hW
  obtain ⟨p, q, hA0, hV, rfl, hfz, hnd⟩ := hW
  have hA : DataW.TrodAll enc Try.prog W 0 (fun _ => true) true Try.f11.params.toList args.toList ds p := hA0
  rw [Try.params11] at hA hval
  obtain ⟨v0, d0, rfl, rfl, h0⟩ := trodAll_one hA
  obtain ⟨rfl, rfl⟩ := trodVars_none hV
  obtain ⟨m, rfl⟩ := open_j2 (hval 0 53 v0 rfl rfl)
  clear hA0 hval0
  simp only [List.append_nil] at hW'
  have hlt : ∀ x ∈ p, x.block < W.heap.size := fun x hx => by simpa using hW'.lt x hx
  refine (walk_FnExactStokesOf m W).mono fun e W' ⟨he, hb⟩ => ?_
  subst he
  refine ⟨_, rfl, _, _, _, [], p, [], hW', trodAll_mk1 (shut_bool Try.underlying4 _), trodAll_mk1 (Below.trod Try.laidOut (by kernel_rfl) (of_decide_eq_true (by kernel_rfl)) h0 hb (fun x hx => hlt x (by simp [hx]))), rfl, hb.frame _, fun h => by cases h⟩

/-- THE STATEMENT. -/
theorem holds_FnExactStokesOf : Rows.FnExactStokesOfSaid :=
  OpenClaim.holds_of_wide 11 Try.f11 rfl rfl rfl rfl rfl rfl rfl ⟨rfl, rfl, rfl, rfl, rfl⟩ rfl rfl rfl rfl rfl (by kernel_rfl) Try.func11 (by kernel_rfl)
    (of_decide_eq_true (by kernel_rfl)) (by unfold Func.isWrapper; first | (rw [if_pos (by decide +kernel)]; kernel_rfl) | (rw [if_neg (by decide +kernel)]; exact ⟨rfl, rfl⟩))
    (fun os started H enc _ => lifted_FnExactStokesOf os started H enc)
end Go.Proofs.Ytmfiiambannecaa
