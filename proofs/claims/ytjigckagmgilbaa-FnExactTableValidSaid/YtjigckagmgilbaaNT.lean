/- Contracts of the reference: which tables are valid. -/
import Derived.Test.YtjigckagmgilbaaN
namespace Go.Proofs.Ytjigckagmgilbaa
open Go.RowKit Pol
set_option maxHeartbeats 2000000 in
theorem stablevalid_any (m : M16) (w : World) :
    Calls Try.prog 18 #[.agg #[.int .i64 m.a.a.re, .int .i64 m.a.a.im, .int .i64 m.a.a.den, .int .i64 m.a.b.re, .int .i64 m.a.b.im, .int .i64 m.a.b.den, .int .i64 m.a.c.re, .int .i64 m.a.c.im, .int .i64 m.a.c.den, .int .i64 m.a.d.re, .int .i64 m.a.d.im, .int .i64 m.a.d.den, .int .i64 m.b.a.re, .int .i64 m.b.a.im, .int .i64 m.b.a.den, .int .i64 m.b.b.re, .int .i64 m.b.b.im, .int .i64 m.b.b.den, .int .i64 m.b.c.re, .int .i64 m.b.c.im, .int .i64 m.b.c.den, .int .i64 m.b.d.re, .int .i64 m.b.d.im, .int .i64 m.b.d.den, .int .i64 m.c.a.re, .int .i64 m.c.a.im, .int .i64 m.c.a.den, .int .i64 m.c.b.re, .int .i64 m.c.b.im, .int .i64 m.c.b.den, .int .i64 m.c.c.re, .int .i64 m.c.c.im, .int .i64 m.c.c.den, .int .i64 m.c.d.re, .int .i64 m.c.d.im, .int .i64 m.c.d.den, .int .i64 m.d.a.re, .int .i64 m.d.a.im, .int .i64 m.d.a.den, .int .i64 m.d.b.re, .int .i64 m.d.b.im, .int .i64 m.d.b.den, .int .i64 m.d.c.re, .int .i64 m.d.c.im, .int .i64 m.d.c.den, .int .i64 m.d.d.re, .int .i64 m.d.d.im, .int .i64 m.d.d.den]] w fun e w' => e = .returned (.bool (all16 realB m)) ∧ Below w.heap.size w w' := by
  have HS : Hid (∀ k, k < 16 → (#[.int .i64 m.a.a.re, .int .i64 m.a.a.im, .int .i64 m.a.a.den, .int .i64 m.a.b.re, .int .i64 m.a.b.im, .int .i64 m.a.b.den, .int .i64 m.a.c.re, .int .i64 m.a.c.im, .int .i64 m.a.c.den, .int .i64 m.a.d.re, .int .i64 m.a.d.im, .int .i64 m.a.d.den, .int .i64 m.b.a.re, .int .i64 m.b.a.im, .int .i64 m.b.a.den, .int .i64 m.b.b.re, .int .i64 m.b.b.im, .int .i64 m.b.b.den, .int .i64 m.b.c.re, .int .i64 m.b.c.im, .int .i64 m.b.c.den, .int .i64 m.b.d.re, .int .i64 m.b.d.im, .int .i64 m.b.d.den, .int .i64 m.c.a.re, .int .i64 m.c.a.im, .int .i64 m.c.a.den, .int .i64 m.c.b.re, .int .i64 m.c.b.im, .int .i64 m.c.b.den, .int .i64 m.c.c.re, .int .i64 m.c.c.im, .int .i64 m.c.c.den, .int .i64 m.c.d.re, .int .i64 m.c.d.im, .int .i64 m.c.d.den, .int .i64 m.d.a.re, .int .i64 m.d.a.im, .int .i64 m.d.a.den, .int .i64 m.d.b.re, .int .i64 m.d.b.im, .int .i64 m.d.b.den, .int .i64 m.d.c.re, .int .i64 m.d.c.im, .int .i64 m.d.c.den, .int .i64 m.d.d.re, .int .i64 m.d.d.im, .int .i64 m.d.d.den] : Array Value)[k * 3]? = some (.int .i64 (m.get k).re) ∧ (#[.int .i64 m.a.a.re, .int .i64 m.a.a.im, .int .i64 m.a.a.den, .int .i64 m.a.b.re, .int .i64 m.a.b.im, .int .i64 m.a.b.den, .int .i64 m.a.c.re, .int .i64 m.a.c.im, .int .i64 m.a.c.den, .int .i64 m.a.d.re, .int .i64 m.a.d.im, .int .i64 m.a.d.den, .int .i64 m.b.a.re, .int .i64 m.b.a.im, .int .i64 m.b.a.den, .int .i64 m.b.b.re, .int .i64 m.b.b.im, .int .i64 m.b.b.den, .int .i64 m.b.c.re, .int .i64 m.b.c.im, .int .i64 m.b.c.den, .int .i64 m.b.d.re, .int .i64 m.b.d.im, .int .i64 m.b.d.den, .int .i64 m.c.a.re, .int .i64 m.c.a.im, .int .i64 m.c.a.den, .int .i64 m.c.b.re, .int .i64 m.c.b.im, .int .i64 m.c.b.den, .int .i64 m.c.c.re, .int .i64 m.c.c.im, .int .i64 m.c.c.den, .int .i64 m.c.d.re, .int .i64 m.c.d.im, .int .i64 m.c.d.den, .int .i64 m.d.a.re, .int .i64 m.d.a.im, .int .i64 m.d.a.den, .int .i64 m.d.b.re, .int .i64 m.d.b.im, .int .i64 m.d.b.den, .int .i64 m.d.c.re, .int .i64 m.d.c.im, .int .i64 m.d.c.den, .int .i64 m.d.d.re, .int .i64 m.d.d.im, .int .i64 m.d.d.den] : Array Value)[k * 3 + 1]? = some (.int .i64 (m.get k).im) ∧ (#[.int .i64 m.a.a.re, .int .i64 m.a.a.im, .int .i64 m.a.a.den, .int .i64 m.a.b.re, .int .i64 m.a.b.im, .int .i64 m.a.b.den, .int .i64 m.a.c.re, .int .i64 m.a.c.im, .int .i64 m.a.c.den, .int .i64 m.a.d.re, .int .i64 m.a.d.im, .int .i64 m.a.d.den, .int .i64 m.b.a.re, .int .i64 m.b.a.im, .int .i64 m.b.a.den, .int .i64 m.b.b.re, .int .i64 m.b.b.im, .int .i64 m.b.b.den, .int .i64 m.b.c.re, .int .i64 m.b.c.im, .int .i64 m.b.c.den, .int .i64 m.b.d.re, .int .i64 m.b.d.im, .int .i64 m.b.d.den, .int .i64 m.c.a.re, .int .i64 m.c.a.im, .int .i64 m.c.a.den, .int .i64 m.c.b.re, .int .i64 m.c.b.im, .int .i64 m.c.b.den, .int .i64 m.c.c.re, .int .i64 m.c.c.im, .int .i64 m.c.c.den, .int .i64 m.c.d.re, .int .i64 m.c.d.im, .int .i64 m.c.d.den, .int .i64 m.d.a.re, .int .i64 m.d.a.im, .int .i64 m.d.a.den, .int .i64 m.d.b.re, .int .i64 m.d.b.im, .int .i64 m.d.b.den, .int .i64 m.d.c.re, .int .i64 m.d.c.im, .int .i64 m.d.c.den, .int .i64 m.d.d.re, .int .i64 m.d.d.im, .int .i64 m.d.d.den] : Array Value)[k * 3 + 2]? = some (.int .i64 (m.get k).den)) := by
    intro k hk
    have : k = 0 ∨ k = 1 ∨ k = 2 ∨ k = 3 ∨ k = 4 ∨ k = 5 ∨ k = 6 ∨ k = 7 ∨ k = 8 ∨ k = 9 ∨ k = 10 ∨ k = 11 ∨ k = 12 ∨ k = 13 ∨ k = 14 ∨ k = 15 := by omega
    rcases this with rfl | rfl | rfl | rfl | rfl | rfl | rfl | rfl | rfl | rfl | rfl | rfl | rfl | rfl | rfl | rfl <;> exact ⟨rfl, rfl, rfl⟩
  go_enter Try.func18, Try.ntmps18
  go_wp2
  go_loopw [3] (fun i wr => XRel realB m.get 16 w i wr) (fun i _ => (16 - intOf i).toNat)
  case atStart => exact XRel.mk 0 (by omega) rfl rfl (by (repeat' first | exact Below.refl _ _ | apply bl_alloc | apply bl_drewN | apply bl_drew | refine bl_trans ?_ (by assumption) | refine bl_set ?_ (by first | omega | (simp <;> omega)) _)) (by simp) (BoxAt.new _ _ _ _ _ HS.out)
  case round =>
    obtain ⟨k, hk, rfl, HP, hbw, hs, HX⟩ := hrel
    have HBW := Lib.hid hbw; clear hbw
    by_cases h5 : k < 16
    · obtain ⟨c0, c1, c2⟩ := HX k h5
      have i0 : (0 : Int) ≤ (k : Int) := by omega
      have i1 : (k : Int) < 16 := by omega
      cases h : vld (m.get k)
      · have HR : Hid (realB (m.get k) = false) := by show _ = _; unfold realB; rw [h]; rfl
        go_wp2_with (go_at_call 36; (with_reducible refine (svalid_fb h _).mono ?_); rintro e w1 ⟨rfl, hb⟩; have hb' := hb; obtain ⟨hc, hf, hz⟩ := bcellk (B := w.heap.size + 1) hb (by first | omega | (simp <;> omega)))
        go_ret
        exact ⟨ret_bool (apre_no (k := k) HR.out 16 (by omega)).symm, HBW.out.trans (hb'.mono HBW.out.size)⟩
      by_cases h0 : (m.get k).im = 0
      · have HR : Hid (realB (m.get k) = true) := by show _ = _; unfold realB; rw [h, h0]; rfl
        have h0' : ((m.get k).im != 0) = false := by simp [h0]
        clear h0
        go_wp2_with (go_at_call 36; (with_reducible refine (svalid_fb h _).mono ?_); rintro e w1 ⟨rfl, hb⟩; have hb' := hb; obtain ⟨hc, hf, hz⟩ := bcellk (B := w.heap.size + 1) hb (by first | omega | (simp <;> omega)))
        go_roundw
        case rel => exact XRel.mk (k + 1) (by omega) (by go_num) (apre_s HP.out HR.out) (HBW.out.trans (hb'.mono HBW.out.size)) (by omega) (HX.below hb' (by omega))
        case measure => simp [intOf]; omega
      · have HR : Hid (realB (m.get k) = false) := by show _ = _; unfold realB; rw [h]; simp [h0]
        have h0' : ((m.get k).im != 0) = true := by simp [h0]
        clear h0
        go_wp2_with (go_at_call 36; (with_reducible refine (svalid_fb h _).mono ?_); rintro e w1 ⟨rfl, hb⟩; have hb' := hb; obtain ⟨hc, hf, hz⟩ := bcellk (B := w.heap.size + 1) hb (by first | omega | (simp <;> omega)))
        go_ret
        exact ⟨ret_bool (apre_no (k := k) HR.out 16 (by omega)).symm, HBW.out.trans (hb'.mono HBW.out.size)⟩
    · obtain rfl : k = 16 := by omega
      go_wp2
      go_ret
      exact ⟨ret_bool HP.out.symm, HBW.out⟩
end Go.Proofs.Ytjigckagmgilbaa
