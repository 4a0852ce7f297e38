/- Contracts: which matrices, numbers and tables are valid. -/
import Derived.Test.YtamdjgehmmogjaaE
set_option maxRecDepth 100000
namespace Go.Proofs.Ytamdjgehmmogjaa
open Go.RowKit Pol

/-- The first k pass; nothing that was there has turned. -/
def VRel (p : Fr → Bool) (g : Nat → Fr) (n : Nat) (W : World) (i : Value) (wr : World) : Prop := ∃ k : Nat, k ≤ n ∧ i = .int .i64 k ∧ Hid (apre p g k = true) ∧ Below W.heap.size W wr
theorem VRel.mk {p : Fr → Bool} {g : Nat → Fr} {n : Nat} {W wr : World} {i : Value} (k : Nat) (h : k ≤ n) (hi : i = .int .i64 k) (hp : apre p g k = true) (hb : Below W.heap.size W wr) : VRel p g n W i wr := ⟨k, h, hi, hp, hb⟩
theorem idx4_0 (m : M4) (w : World) : (Instr.index 40 (.agg #[.int .i64 m.a.re, .int .i64 m.a.im, .int .i64 m.a.den, .int .i64 m.b.re, .int .i64 m.b.im, .int .i64 m.b.den, .int .i64 m.c.re, .int .i64 m.c.im, .int .i64 m.c.den, .int .i64 m.d.re, .int .i64 m.d.im, .int .i64 m.d.den]) (.int .i64 0)).run Try.prog w = .ok (.agg #[.int .i64 m.a.re, .int .i64 m.a.im, .int .i64 m.a.den]) w := by kernel_rfl
theorem idx4_1 (m : M4) (w : World) : (Instr.index 40 (.agg #[.int .i64 m.a.re, .int .i64 m.a.im, .int .i64 m.a.den, .int .i64 m.b.re, .int .i64 m.b.im, .int .i64 m.b.den, .int .i64 m.c.re, .int .i64 m.c.im, .int .i64 m.c.den, .int .i64 m.d.re, .int .i64 m.d.im, .int .i64 m.d.den]) (.int .i64 1)).run Try.prog w = .ok (.agg #[.int .i64 m.b.re, .int .i64 m.b.im, .int .i64 m.b.den]) w := by kernel_rfl
theorem idx4_2 (m : M4) (w : World) : (Instr.index 40 (.agg #[.int .i64 m.a.re, .int .i64 m.a.im, .int .i64 m.a.den, .int .i64 m.b.re, .int .i64 m.b.im, .int .i64 m.b.den, .int .i64 m.c.re, .int .i64 m.c.im, .int .i64 m.c.den, .int .i64 m.d.re, .int .i64 m.d.im, .int .i64 m.d.den]) (.int .i64 2)).run Try.prog w = .ok (.agg #[.int .i64 m.c.re, .int .i64 m.c.im, .int .i64 m.c.den]) w := by kernel_rfl
theorem idx4_3 (m : M4) (w : World) : (Instr.index 40 (.agg #[.int .i64 m.a.re, .int .i64 m.a.im, .int .i64 m.a.den, .int .i64 m.b.re, .int .i64 m.b.im, .int .i64 m.b.den, .int .i64 m.c.re, .int .i64 m.c.im, .int .i64 m.c.den, .int .i64 m.d.re, .int .i64 m.d.im, .int .i64 m.d.den]) (.int .i64 3)).run Try.prog w = .ok (.agg #[.int .i64 m.d.re, .int .i64 m.d.im, .int .i64 m.d.den]) w := by kernel_rfl
set_option maxHeartbeats 1000000 in
theorem realOk_any (a : Fr) (w : World) :
    Calls Try.prog 62 #[.agg #[.int .i64 a.re, .int .i64 a.im, .int .i64 a.den]] w fun e w' => e = .returned (.bool (realB a)) ∧ Below w.heap.size w w' := by
  cases h : vld a
  · have hr : realB a = false := by unfold realB; rw [h]; rfl
    rw [hr]
    go_enter Try.func62, Try.ntmps62
    go_wp2_with (go_at_call 34; (with_reducible refine (valid_fb h _).mono ?_); rintro e w' ⟨rfl, hb⟩; obtain ⟨hc, hf, hz⟩ := bcellk (B := w.heap.size + 1) hb (by first | omega | (simp <;> omega)))
    go_ret
    exact ⟨rfl, by (repeat' first | exact Below.refl _ _ | apply bl_alloc | apply bl_drewN | apply bl_drew | refine bl_trans ?_ (by assumption) | refine bl_set ?_ (by first | omega | (simp <;> omega)) _)⟩
  · have hr : realB a = decide (a.im = 0) := by unfold realB; rw [h]; rfl
    rw [hr]
    by_cases h0 : a.im = 0
    · have h0' : (a.im == 0) = true := by simp [h0]
      have H0 := Lib.hid h0; clear h0
      go_enter Try.func62, Try.ntmps62
      go_wp2_with (go_at_call 34; (with_reducible refine (valid_fb h _).mono ?_); rintro e w' ⟨rfl, hb⟩; obtain ⟨hc, hf, hz⟩ := bcellk (B := w.heap.size + 1) hb (by first | omega | (simp <;> omega)))
      go_ret
      exact ⟨ret_bool (by rw [H0.out]; rfl), by (repeat' first | exact Below.refl _ _ | apply bl_alloc | apply bl_drewN | apply bl_drew | refine bl_trans ?_ (by assumption) | refine bl_set ?_ (by first | omega | (simp <;> omega)) _)⟩
    · have h0' : (a.im == 0) = false := by simp [h0]
      go_enter Try.func62, Try.ntmps62
      go_wp2_with (go_at_call 34; (with_reducible refine (valid_fb h _).mono ?_); rintro e w' ⟨rfl, hb⟩; obtain ⟨hc, hf, hz⟩ := bcellk (B := w.heap.size + 1) hb (by first | omega | (simp <;> omega)))
      go_ret
      exact ⟨ret_bool (by simp [h0]), by (repeat' first | exact Below.refl _ _ | apply bl_alloc | apply bl_drewN | apply bl_drew | refine bl_trans ?_ (by assumption) | refine bl_set ?_ (by first | omega | (simp <;> omega)) _)⟩
theorem realOk_b {a : Fr} {b : Bool} (h : realB a = b) (w : World) :
    Calls Try.prog 62 #[.agg #[.int .i64 a.re, .int .i64 a.im, .int .i64 a.den]] w fun e w' => e = .returned (.bool b) ∧ Below w.heap.size w w' := h ▸ realOk_any a w
set_option maxHeartbeats 4000000 in
theorem istokesvalid_any (m : M4) (w : World) :
    Calls Try.prog 40 #[.agg #[.int .i64 m.a.re, .int .i64 m.a.im, .int .i64 m.a.den, .int .i64 m.b.re, .int .i64 m.b.im, .int .i64 m.b.den, .int .i64 m.c.re, .int .i64 m.c.im, .int .i64 m.c.den, .int .i64 m.d.re, .int .i64 m.d.im, .int .i64 m.d.den]] w fun e w' => e = .returned (.bool (all4 realB m)) ∧ Below w.heap.size w w' := by
  have i0 := idx4_0 m
  have i1 := idx4_1 m
  have i2 := idx4_2 m
  have i3 := idx4_3 m
  go_enter Try.func40, Try.ntmps40
  go_wp2
  go_loopw [7] (fun i wr => VRel realB m.get 4 w i wr) (fun i _ => (4 - intOf i).toNat)
  case atStart => exact VRel.mk 0 (by omega) rfl rfl (by (repeat' first | exact Below.refl _ _ | apply bl_alloc | apply bl_drewN | apply bl_drew | refine bl_trans ?_ (by assumption) | refine bl_set ?_ (by first | omega | (simp <;> omega)) _))
  case round =>
    obtain ⟨k, hk, rfl, HP, hb⟩ := hrel
    have h5 : k = 0 ∨ k = 1 ∨ k = 2 ∨ k = 3 ∨ k = 4 := by omega
    rcases h5 with rfl | rfl | rfl | rfl | rfl
    · cases h : realB m.a
      · go_wp2_with (go_at_call 62; (with_reducible refine (realOk_b h _).mono ?_); rintro e w1 ⟨rfl, hb1⟩)
        go_ret
        exact ⟨ret_bool (apre_no (k := 0) h 4 (by omega)).symm, by (repeat' first | exact Below.refl _ _ | apply bl_alloc | apply bl_drewN | apply bl_drew | refine bl_trans ?_ (by assumption) | refine bl_set ?_ (by first | omega | (simp <;> omega)) _)⟩
      · go_wp2_with (go_at_call 62; (with_reducible refine (realOk_b h _).mono ?_); rintro e w1 ⟨rfl, hb1⟩)
        go_roundw
        case rel => exact VRel.mk 1 (by omega) (by go_num) (apre_s HP.out h) (by (repeat' first | exact Below.refl _ _ | apply bl_alloc | apply bl_drewN | apply bl_drew | refine bl_trans ?_ (by assumption) | refine bl_set ?_ (by first | omega | (simp <;> omega)) _))
        case measure => simp [intOf]
    · cases h : realB m.b
      · go_wp2_with (go_at_call 62; (with_reducible refine (realOk_b h _).mono ?_); rintro e w1 ⟨rfl, hb1⟩)
        go_ret
        exact ⟨ret_bool (apre_no (k := 1) h 4 (by omega)).symm, by (repeat' first | exact Below.refl _ _ | apply bl_alloc | apply bl_drewN | apply bl_drew | refine bl_trans ?_ (by assumption) | refine bl_set ?_ (by first | omega | (simp <;> omega)) _)⟩
      · go_wp2_with (go_at_call 62; (with_reducible refine (realOk_b h _).mono ?_); rintro e w1 ⟨rfl, hb1⟩)
        go_roundw
        case rel => exact VRel.mk 2 (by omega) (by go_num) (apre_s HP.out h) (by (repeat' first | exact Below.refl _ _ | apply bl_alloc | apply bl_drewN | apply bl_drew | refine bl_trans ?_ (by assumption) | refine bl_set ?_ (by first | omega | (simp <;> omega)) _))
        case measure => simp [intOf]
    · cases h : realB m.c
      · go_wp2_with (go_at_call 62; (with_reducible refine (realOk_b h _).mono ?_); rintro e w1 ⟨rfl, hb1⟩)
        go_ret
        exact ⟨ret_bool (apre_no (k := 2) h 4 (by omega)).symm, by (repeat' first | exact Below.refl _ _ | apply bl_alloc | apply bl_drewN | apply bl_drew | refine bl_trans ?_ (by assumption) | refine bl_set ?_ (by first | omega | (simp <;> omega)) _)⟩
      · go_wp2_with (go_at_call 62; (with_reducible refine (realOk_b h _).mono ?_); rintro e w1 ⟨rfl, hb1⟩)
        go_roundw
        case rel => exact VRel.mk 3 (by omega) (by go_num) (apre_s HP.out h) (by (repeat' first | exact Below.refl _ _ | apply bl_alloc | apply bl_drewN | apply bl_drew | refine bl_trans ?_ (by assumption) | refine bl_set ?_ (by first | omega | (simp <;> omega)) _))
        case measure => simp [intOf]
    · cases h : realB m.d
      · go_wp2_with (go_at_call 62; (with_reducible refine (realOk_b h _).mono ?_); rintro e w1 ⟨rfl, hb1⟩)
        go_ret
        exact ⟨ret_bool (apre_no (k := 3) h 4 (by omega)).symm, by (repeat' first | exact Below.refl _ _ | apply bl_alloc | apply bl_drewN | apply bl_drew | refine bl_trans ?_ (by assumption) | refine bl_set ?_ (by first | omega | (simp <;> omega)) _)⟩
      · go_wp2_with (go_at_call 62; (with_reducible refine (realOk_b h _).mono ?_); rintro e w1 ⟨rfl, hb1⟩)
        go_roundw
        case rel => exact VRel.mk 4 (by omega) (by go_num) (apre_s HP.out h) (by (repeat' first | exact Below.refl _ _ | apply bl_alloc | apply bl_drewN | apply bl_drew | refine bl_trans ?_ (by assumption) | refine bl_set ?_ (by first | omega | (simp <;> omega)) _))
        case measure => simp [intOf]
    · go_wp2
      go_ret
      exact ⟨ret_bool HP.out.symm, by (repeat' first | exact Below.refl _ _ | apply bl_alloc | apply bl_drewN | apply bl_drew | refine bl_trans ?_ (by assumption) | refine bl_set ?_ (by first | omega | (simp <;> omega)) _)⟩
end Go.Proofs.Ytamdjgehmmogjaa
