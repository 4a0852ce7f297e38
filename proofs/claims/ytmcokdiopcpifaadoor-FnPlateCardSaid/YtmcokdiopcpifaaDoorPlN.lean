/- Contracts of the reference: which matrices, numbers and tables are valid. -/
import Derived.Test.YtmcokdiopcpifaaDoorPlG4
set_option maxRecDepth 100000
namespace Go.Proofs.YtmcokdiopcpifaaDoor
open Go.RowKit Pol
/-- The first k pass; the box holds the fractions; nothing that was there has turned. -/
def XRel (p : Fr → Bool) (g : Nat → Fr) (n : Nat) (W : World) (i : Value) (wr : World) : Prop := ∃ k : Nat, k ≤ n ∧ i = .int .i64 k ∧ Hid (apre p g k = true) ∧ Below W.heap.size W wr ∧ W.heap.size + 1 ≤ wr.heap.size ∧ BoxAt wr W.heap.size g n
theorem XRel.mk {p : Fr → Bool} {g : Nat → Fr} {n : Nat} {W wr : World} {i : Value} (k : Nat) (h : k ≤ n) (hi : i = .int .i64 k) (hp : apre p g k = true) (hb : Below W.heap.size W wr) (hs : W.heap.size + 1 ≤ wr.heap.size) (hx : BoxAt wr W.heap.size g n) : XRel p g n W i wr := ⟨k, h, hi, hp, hb, hs, hx⟩
set_option maxHeartbeats 2000000 in
theorem smatvalid_any (m : M4) (w : World) :
    Calls Tryd.prog 69 #[.agg #[.int .i64 m.a.re, .int .i64 m.a.im, .int .i64 m.a.den, .int .i64 m.b.re, .int .i64 m.b.im, .int .i64 m.b.den, .int .i64 m.c.re, .int .i64 m.c.im, .int .i64 m.c.den, .int .i64 m.d.re, .int .i64 m.d.im, .int .i64 m.d.den]] w fun e w' => e = .returned (.bool (all4 vld m)) ∧ Below w.heap.size w w' := by
  have HS : Hid (∀ k, k < 4 → (#[.int .i64 m.a.re, .int .i64 m.a.im, .int .i64 m.a.den, .int .i64 m.b.re, .int .i64 m.b.im, .int .i64 m.b.den, .int .i64 m.c.re, .int .i64 m.c.im, .int .i64 m.c.den, .int .i64 m.d.re, .int .i64 m.d.im, .int .i64 m.d.den] : Array Value)[k * 3]? = some (.int .i64 (m.get k).re) ∧ (#[.int .i64 m.a.re, .int .i64 m.a.im, .int .i64 m.a.den, .int .i64 m.b.re, .int .i64 m.b.im, .int .i64 m.b.den, .int .i64 m.c.re, .int .i64 m.c.im, .int .i64 m.c.den, .int .i64 m.d.re, .int .i64 m.d.im, .int .i64 m.d.den] : Array Value)[k * 3 + 1]? = some (.int .i64 (m.get k).im) ∧ (#[.int .i64 m.a.re, .int .i64 m.a.im, .int .i64 m.a.den, .int .i64 m.b.re, .int .i64 m.b.im, .int .i64 m.b.den, .int .i64 m.c.re, .int .i64 m.c.im, .int .i64 m.c.den, .int .i64 m.d.re, .int .i64 m.d.im, .int .i64 m.d.den] : Array Value)[k * 3 + 2]? = some (.int .i64 (m.get k).den)) := by
    intro k hk
    have : k = 0 ∨ k = 1 ∨ k = 2 ∨ k = 3 := by omega
    rcases this with rfl | rfl | rfl | rfl <;> exact ⟨rfl, rfl, rfl⟩
  go_enter Tryd.func69, Tryd.ntmps69
  go_wp2
  go_loopw [3] (fun i wr => XRel vld m.get 4 w i wr) (fun i _ => (4 - intOf i).toNat)
  case atStart => exact XRel.mk 0 (by omega) rfl rfl (by (repeat' first | exact Below.refl _ _ | apply bl_alloc | apply bl_drewN | apply bl_drew | refine bl_trans ?_ (by assumption) | refine bl_set ?_ (by first | omega | (simp <;> omega)) _)) (by simp) (BoxAt.new _ _ _ _ _ HS.out)
  case round =>
    obtain ⟨k, hk, rfl, HP, hbw, hs, HX⟩ := hrel
    have HBW := Lib.hid hbw; clear hbw
    by_cases h5 : k < 4
    · obtain ⟨c0, c1, c2⟩ := HX k h5
      have i0 : (0 : Int) ≤ (k : Int) := by omega
      have i1 : (k : Int) < 4 := by omega
      cases h : vld (m.get k)
      · go_wp2_with (go_at_call 67; (with_reducible refine (svalid_fb h _).mono ?_); rintro e w1 ⟨rfl, hb⟩; have hb' := hb; obtain ⟨hc, hf, hz⟩ := bcellk (B := w.heap.size + 1) hb (by first | omega | (simp <;> omega)))
        go_ret
        exact ⟨ret_bool (apre_no (k := k) h 4 (by omega)).symm, HBW.out.trans (hb'.mono HBW.out.size)⟩
      · go_wp2_with (go_at_call 67; (with_reducible refine (svalid_fb h _).mono ?_); rintro e w1 ⟨rfl, hb⟩; have hb' := hb; obtain ⟨hc, hf, hz⟩ := bcellk (B := w.heap.size + 1) hb (by first | omega | (simp <;> omega)))
        go_roundw
        case rel => exact XRel.mk (k + 1) (by omega) (by go_num) (apre_s HP.out h) (HBW.out.trans (hb'.mono HBW.out.size)) (by omega) (HX.below hb' (by omega))
        case measure => simp [intOf]; omega
    · obtain rfl : k = 4 := by omega
      go_wp2
      go_ret
      exact ⟨ret_bool HP.out.symm, HBW.out⟩
end Go.Proofs.YtmcokdiopcpifaaDoor
