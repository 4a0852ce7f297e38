/- Contracts: which matrices, numbers and tables are valid. -/
import Derived.Test.YtcpdapfcbnhgaaaE
namespace Go.Proofs.Ytcpdapfcbnhgaaa
open Go.RowKit Pol

/-- The first k pass; nothing that was there has turned. -/
def VRel (p : Fr → Bool) (g : Nat → Fr) (n : Nat) (W : World) (i : Value) (wr : World) : Prop := ∃ k : Nat, k ≤ n ∧ i = .int .i64 k ∧ Hid (apre p g k = true) ∧ Below W.heap.size W wr
theorem VRel.mk {p : Fr → Bool} {g : Nat → Fr} {n : Nat} {W wr : World} {i : Value} (k : Nat) (h : k ≤ n) (hi : i = .int .i64 k) (hp : apre p g k = true) (hb : Below W.heap.size W wr) : VRel p g n W i wr := ⟨k, h, hi, hp, hb⟩
theorem idx4_0 (m : M4) (w : World) : (Instr.index 27 (.agg #[.int .i64 m.a.re, .int .i64 m.a.im, .int .i64 m.a.den, .int .i64 m.b.re, .int .i64 m.b.im, .int .i64 m.b.den, .int .i64 m.c.re, .int .i64 m.c.im, .int .i64 m.c.den, .int .i64 m.d.re, .int .i64 m.d.im, .int .i64 m.d.den]) (.int .i64 0)).run Try.prog w = .ok (.agg #[.int .i64 m.a.re, .int .i64 m.a.im, .int .i64 m.a.den]) w := by kernel_rfl
theorem idx4_1 (m : M4) (w : World) : (Instr.index 27 (.agg #[.int .i64 m.a.re, .int .i64 m.a.im, .int .i64 m.a.den, .int .i64 m.b.re, .int .i64 m.b.im, .int .i64 m.b.den, .int .i64 m.c.re, .int .i64 m.c.im, .int .i64 m.c.den, .int .i64 m.d.re, .int .i64 m.d.im, .int .i64 m.d.den]) (.int .i64 1)).run Try.prog w = .ok (.agg #[.int .i64 m.b.re, .int .i64 m.b.im, .int .i64 m.b.den]) w := by kernel_rfl
theorem idx4_2 (m : M4) (w : World) : (Instr.index 27 (.agg #[.int .i64 m.a.re, .int .i64 m.a.im, .int .i64 m.a.den, .int .i64 m.b.re, .int .i64 m.b.im, .int .i64 m.b.den, .int .i64 m.c.re, .int .i64 m.c.im, .int .i64 m.c.den, .int .i64 m.d.re, .int .i64 m.d.im, .int .i64 m.d.den]) (.int .i64 2)).run Try.prog w = .ok (.agg #[.int .i64 m.c.re, .int .i64 m.c.im, .int .i64 m.c.den]) w := by kernel_rfl
theorem idx4_3 (m : M4) (w : World) : (Instr.index 27 (.agg #[.int .i64 m.a.re, .int .i64 m.a.im, .int .i64 m.a.den, .int .i64 m.b.re, .int .i64 m.b.im, .int .i64 m.b.den, .int .i64 m.c.re, .int .i64 m.c.im, .int .i64 m.c.den, .int .i64 m.d.re, .int .i64 m.d.im, .int .i64 m.d.den]) (.int .i64 3)).run Try.prog w = .ok (.agg #[.int .i64 m.d.re, .int .i64 m.d.im, .int .i64 m.d.den]) w := by kernel_rfl
set_option maxHeartbeats 4000000 in
theorem imatvalid_any (m : M4) (w : World) :
    Calls Try.prog 17 #[.agg #[.int .i64 m.a.re, .int .i64 m.a.im, .int .i64 m.a.den, .int .i64 m.b.re, .int .i64 m.b.im, .int .i64 m.b.den, .int .i64 m.c.re, .int .i64 m.c.im, .int .i64 m.c.den, .int .i64 m.d.re, .int .i64 m.d.im, .int .i64 m.d.den]] w fun e w' => e = .returned (.bool (all4 vld m)) ∧ Below w.heap.size w w' := by
  have i0 := idx4_0 m
  have i1 := idx4_1 m
  have i2 := idx4_2 m
  have i3 := idx4_3 m
  go_enter Try.func17, Try.ntmps17
  go_wp2
  go_loopw [7] (fun i wr => VRel vld m.get 4 w i wr) (fun i _ => (4 - intOf i).toNat)
  case atStart => exact VRel.mk 0 (by omega) rfl rfl (by (repeat' first | exact Below.refl _ _ | apply bl_alloc | apply bl_drewN | apply bl_drew | refine bl_trans ?_ (by assumption) | refine bl_set ?_ (by first | omega | (simp <;> omega)) _))
  case round =>
    obtain ⟨k, hk, rfl, HP, hb⟩ := hrel
    have h5 : k = 0 ∨ k = 1 ∨ k = 2 ∨ k = 3 ∨ k = 4 := by omega
    rcases h5 with rfl | rfl | rfl | rfl | rfl
    · cases h : vld m.a
      · go_wp2_with (go_at_call 40; (with_reducible refine (valid_fb h _).mono ?_); rintro e w1 ⟨rfl, hb1⟩)
        go_ret
        exact ⟨ret_bool (apre_no (k := 0) h 4 (by omega)).symm, by (repeat' first | exact Below.refl _ _ | apply bl_alloc | apply bl_drewN | apply bl_drew | refine bl_trans ?_ (by assumption) | refine bl_set ?_ (by first | omega | (simp <;> omega)) _)⟩
      · go_wp2_with (go_at_call 40; (with_reducible refine (valid_fb h _).mono ?_); rintro e w1 ⟨rfl, hb1⟩)
        go_roundw
        case rel => exact VRel.mk 1 (by omega) (by go_num) (apre_s HP.out h) (by (repeat' first | exact Below.refl _ _ | apply bl_alloc | apply bl_drewN | apply bl_drew | refine bl_trans ?_ (by assumption) | refine bl_set ?_ (by first | omega | (simp <;> omega)) _))
        case measure => simp [intOf]
    · cases h : vld m.b
      · go_wp2_with (go_at_call 40; (with_reducible refine (valid_fb h _).mono ?_); rintro e w1 ⟨rfl, hb1⟩)
        go_ret
        exact ⟨ret_bool (apre_no (k := 1) h 4 (by omega)).symm, by (repeat' first | exact Below.refl _ _ | apply bl_alloc | apply bl_drewN | apply bl_drew | refine bl_trans ?_ (by assumption) | refine bl_set ?_ (by first | omega | (simp <;> omega)) _)⟩
      · go_wp2_with (go_at_call 40; (with_reducible refine (valid_fb h _).mono ?_); rintro e w1 ⟨rfl, hb1⟩)
        go_roundw
        case rel => exact VRel.mk 2 (by omega) (by go_num) (apre_s HP.out h) (by (repeat' first | exact Below.refl _ _ | apply bl_alloc | apply bl_drewN | apply bl_drew | refine bl_trans ?_ (by assumption) | refine bl_set ?_ (by first | omega | (simp <;> omega)) _))
        case measure => simp [intOf]
    · cases h : vld m.c
      · go_wp2_with (go_at_call 40; (with_reducible refine (valid_fb h _).mono ?_); rintro e w1 ⟨rfl, hb1⟩)
        go_ret
        exact ⟨ret_bool (apre_no (k := 2) h 4 (by omega)).symm, by (repeat' first | exact Below.refl _ _ | apply bl_alloc | apply bl_drewN | apply bl_drew | refine bl_trans ?_ (by assumption) | refine bl_set ?_ (by first | omega | (simp <;> omega)) _)⟩
      · go_wp2_with (go_at_call 40; (with_reducible refine (valid_fb h _).mono ?_); rintro e w1 ⟨rfl, hb1⟩)
        go_roundw
        case rel => exact VRel.mk 3 (by omega) (by go_num) (apre_s HP.out h) (by (repeat' first | exact Below.refl _ _ | apply bl_alloc | apply bl_drewN | apply bl_drew | refine bl_trans ?_ (by assumption) | refine bl_set ?_ (by first | omega | (simp <;> omega)) _))
        case measure => simp [intOf]
    · cases h : vld m.d
      · go_wp2_with (go_at_call 40; (with_reducible refine (valid_fb h _).mono ?_); rintro e w1 ⟨rfl, hb1⟩)
        go_ret
        exact ⟨ret_bool (apre_no (k := 3) h 4 (by omega)).symm, by (repeat' first | exact Below.refl _ _ | apply bl_alloc | apply bl_drewN | apply bl_drew | refine bl_trans ?_ (by assumption) | refine bl_set ?_ (by first | omega | (simp <;> omega)) _)⟩
      · go_wp2_with (go_at_call 40; (with_reducible refine (valid_fb h _).mono ?_); rintro e w1 ⟨rfl, hb1⟩)
        go_roundw
        case rel => exact VRel.mk 4 (by omega) (by go_num) (apre_s HP.out h) (by (repeat' first | exact Below.refl _ _ | apply bl_alloc | apply bl_drewN | apply bl_drew | refine bl_trans ?_ (by assumption) | refine bl_set ?_ (by first | omega | (simp <;> omega)) _))
        case measure => simp [intOf]
    · go_wp2
      go_ret
      exact ⟨ret_bool HP.out.symm, by (repeat' first | exact Below.refl _ _ | apply bl_alloc | apply bl_drewN | apply bl_drew | refine bl_trans ?_ (by assumption) | refine bl_set ?_ (by first | omega | (simp <;> omega)) _)⟩
end Go.Proofs.Ytcpdapfcbnhgaaa
