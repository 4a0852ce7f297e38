/- Contracts: which tables are valid. -/
import Derived.Test.YtjigckagmgilbaaF
import Derived.Laws.Rows
namespace Go.Proofs.Ytjigckagmgilbaa
open Go.RowKit Pol
theorem idx16 (m : M16) (k : Nat) (hk : k < 16) (w : World) : (Instr.index 45 (.agg #[.int .i64 m.a.a.re, .int .i64 m.a.a.im, .int .i64 m.a.a.den, .int .i64 m.a.b.re, .int .i64 m.a.b.im, .int .i64 m.a.b.den, .int .i64 m.a.c.re, .int .i64 m.a.c.im, .int .i64 m.a.c.den, .int .i64 m.a.d.re, .int .i64 m.a.d.im, .int .i64 m.a.d.den, .int .i64 m.b.a.re, .int .i64 m.b.a.im, .int .i64 m.b.a.den, .int .i64 m.b.b.re, .int .i64 m.b.b.im, .int .i64 m.b.b.den, .int .i64 m.b.c.re, .int .i64 m.b.c.im, .int .i64 m.b.c.den, .int .i64 m.b.d.re, .int .i64 m.b.d.im, .int .i64 m.b.d.den, .int .i64 m.c.a.re, .int .i64 m.c.a.im, .int .i64 m.c.a.den, .int .i64 m.c.b.re, .int .i64 m.c.b.im, .int .i64 m.c.b.den, .int .i64 m.c.c.re, .int .i64 m.c.c.im, .int .i64 m.c.c.den, .int .i64 m.c.d.re, .int .i64 m.c.d.im, .int .i64 m.c.d.den, .int .i64 m.d.a.re, .int .i64 m.d.a.im, .int .i64 m.d.a.den, .int .i64 m.d.b.re, .int .i64 m.d.b.im, .int .i64 m.d.b.den, .int .i64 m.d.c.re, .int .i64 m.d.c.im, .int .i64 m.d.c.den, .int .i64 m.d.d.re, .int .i64 m.d.d.im, .int .i64 m.d.d.den]) (.int .i64 k)).run Try.prog w = .ok (.agg #[.int .i64 (m.get k).re, .int .i64 (m.get k).im, .int .i64 (m.get k).den]) w := by
  have h16 : k = 0 ∨ k = 1 ∨ k = 2 ∨ k = 3 ∨ k = 4 ∨ k = 5 ∨ k = 6 ∨ k = 7 ∨ k = 8 ∨ k = 9 ∨ k = 10 ∨ k = 11 ∨ k = 12 ∨ k = 13 ∨ k = 14 ∨ k = 15 := by omega
  rcases h16 with rfl | rfl | rfl | rfl | rfl | rfl | rfl | rfl | rfl | rfl | rfl | rfl | rfl | rfl | rfl | rfl
  · exact idx16_0 m w
  · exact idx16_1 m w
  · exact idx16_2 m w
  · exact idx16_3 m w
  · exact idx16_4 m w
  · exact idx16_5 m w
  · exact idx16_6 m w
  · exact idx16_7 m w
  · exact idx16_8 m w
  · exact idx16_9 m w
  · exact idx16_10 m w
  · exact idx16_11 m w
  · exact idx16_12 m w
  · exact idx16_13 m w
  · exact idx16_14 m w
  · exact idx16_15 m w
set_option maxHeartbeats 4000000 in
theorem itablevalid_any (m : M16) (w : World) :
    Calls Try.prog 20 #[.agg #[.int .i64 m.a.a.re, .int .i64 m.a.a.im, .int .i64 m.a.a.den, .int .i64 m.a.b.re, .int .i64 m.a.b.im, .int .i64 m.a.b.den, .int .i64 m.a.c.re, .int .i64 m.a.c.im, .int .i64 m.a.c.den, .int .i64 m.a.d.re, .int .i64 m.a.d.im, .int .i64 m.a.d.den, .int .i64 m.b.a.re, .int .i64 m.b.a.im, .int .i64 m.b.a.den, .int .i64 m.b.b.re, .int .i64 m.b.b.im, .int .i64 m.b.b.den, .int .i64 m.b.c.re, .int .i64 m.b.c.im, .int .i64 m.b.c.den, .int .i64 m.b.d.re, .int .i64 m.b.d.im, .int .i64 m.b.d.den, .int .i64 m.c.a.re, .int .i64 m.c.a.im, .int .i64 m.c.a.den, .int .i64 m.c.b.re, .int .i64 m.c.b.im, .int .i64 m.c.b.den, .int .i64 m.c.c.re, .int .i64 m.c.c.im, .int .i64 m.c.c.den, .int .i64 m.c.d.re, .int .i64 m.c.d.im, .int .i64 m.c.d.den, .int .i64 m.d.a.re, .int .i64 m.d.a.im, .int .i64 m.d.a.den, .int .i64 m.d.b.re, .int .i64 m.d.b.im, .int .i64 m.d.b.den, .int .i64 m.d.c.re, .int .i64 m.d.c.im, .int .i64 m.d.c.den, .int .i64 m.d.d.re, .int .i64 m.d.d.im, .int .i64 m.d.d.den]] w fun e w' => e = .returned (.bool (all16 realB m)) ∧ Below w.heap.size w w' := by
  go_enter Try.func20, Try.ntmps20
  go_wp2_with (refine wpList_load_row rfl 45 _ rfl w.heap.size rfl 47 _ (0, 0) _ (heap_alloc_new w _) Try.underlying45 rfl (by kernel_rfl) ?_)
  go_loopw [7] (fun i wr => VRel realB m.get 16 w i wr) (fun i _ => (16 - intOf i).toNat)
  case atStart => exact VRel.mk 0 (by omega) rfl rfl (by (repeat' first | exact Below.refl _ _ | apply bl_alloc | apply bl_drewN | apply bl_drew | refine bl_trans ?_ (by assumption) | refine bl_set ?_ (by first | omega | (simp <;> omega)) _))
  case round =>
    obtain ⟨k, hk, rfl, HP, hb⟩ := hrel
    by_cases h5 : k < 16
    · have ik := idx16 m k h5
      cases h : realB (m.get k)
      · go_wp2_with (go_at_call 39; (with_reducible refine (realOk_b h _).mono ?_); rintro e w1 ⟨rfl, hb1⟩)
        go_ret
        exact ⟨ret_bool (apre_no h 16 (by omega)).symm, by (repeat' first | exact Below.refl _ _ | apply bl_alloc | apply bl_drewN | apply bl_drew | refine bl_trans ?_ (by assumption) | refine bl_set ?_ (by first | omega | (simp <;> omega)) _)⟩
      · go_wp2_with (go_at_call 39; (with_reducible refine (realOk_b h _).mono ?_); rintro e w1 ⟨rfl, hb1⟩)
        go_roundw
        case rel => exact VRel.mk (k + 1) (by omega) (by go_num) (apre_s HP.out h) (by (repeat' first | exact Below.refl _ _ | apply bl_alloc | apply bl_drewN | apply bl_drew | refine bl_trans ?_ (by assumption) | refine bl_set ?_ (by first | omega | (simp <;> omega)) _))
        case measure => simp [intOf]; omega
    · obtain rfl : k = 16 := by omega
      go_wp2
      go_ret
      exact ⟨ret_bool HP.out.symm, by (repeat' first | exact Below.refl _ _ | apply bl_alloc | apply bl_drewN | apply bl_drew | refine bl_trans ?_ (by assumption) | refine bl_set ?_ (by first | omega | (simp <;> omega)) _)⟩
end Go.Proofs.Ytjigckagmgilbaa
