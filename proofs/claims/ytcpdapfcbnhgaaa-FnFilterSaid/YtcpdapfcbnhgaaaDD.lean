/- Contracts: draws of fractions and vectors. -/
import Derived.Test.YtcpdapfcbnhgaaaDK
import Derived.Test.YtcpdapfcbnhgaaaI
import Derived.Test.YtcpdapfcbnhgaaaL
namespace Go.Proofs.Ytcpdapfcbnhgaaa
open Go.RowKit Pol

theorem Room.own {w w1 : World} {B n R : Nat} (h : Room w B n) (hO : Own R w w1) (hB : B < w.heap.size) (hne : B ≠ R) : Room w1 B n := fun j hj => by
  rw [hO.cell hB hne, hO.frozen hB hne]; exact h j hj
theorem BoxAt.own {w w1 : World} {B n R : Nat} {g : Nat → Fr} (h : BoxAt w B g n) (hO : Own R w w1) (hB : B < w.heap.size) (hne : B ≠ R) : BoxAt w1 B g n := fun k hk => by
  rw [hO.cell hB hne, hO.cell hB hne, hO.cell hB hne]; exact h k hk
theorem srcF (f : Fr) (k : Nat) (hk : k < 1) : (#[.int .i64 f.re, .int .i64 f.im, .int .i64 f.den] : Array Value)[k * 3]? = some (.int .i64 f.re) ∧ (#[.int .i64 f.re, .int .i64 f.im, .int .i64 f.den] : Array Value)[k * 3 + 1]? = some (.int .i64 f.im) ∧ (#[.int .i64 f.re, .int .i64 f.im, .int .i64 f.den] : Array Value)[k * 3 + 2]? = some (.int .i64 f.den) := by
  obtain rfl : k = 0 := by omega
  exact ⟨rfl, rfl, rfl⟩
def FrP (v : Value) : Prop := ∃ f : Fr, v = .agg #[.int .i64 f.re, .int .i64 f.im, .int .i64 f.den]
def J2P (v : Value) : Prop := ∃ f : J2, v = .agg #[.int .i64 f.x.re, .int .i64 f.x.im, .int .i64 f.x.den, .int .i64 f.y.re, .int .i64 f.y.im, .int .i64 f.y.den]
def M4P (v : Value) : Prop := ∃ f : M4, v = .agg #[.int .i64 f.a.re, .int .i64 f.a.im, .int .i64 f.a.den, .int .i64 f.b.re, .int .i64 f.b.im, .int .i64 f.b.den, .int .i64 f.c.re, .int .i64 f.c.im, .int .i64 f.c.den, .int .i64 f.d.re, .int .i64 f.d.im, .int .i64 f.d.den]
set_option maxRecDepth 100000 in
set_option maxHeartbeats 8000000 in
theorem l91Frac_any {N R : Nat} {a0 : Option Addr} {len cap k : Nat} {w : World} (hk : k ≤ 90000) (h : Rd N R a0 len cap k w) :
    Calls Try.prog 56 #[.pointer (some ⟨R, 0, none⟩)] w (RdOut FrP N R a0 len cap (k + 8) w) := by
  have hRl := h.lt
  have h0 := Lib.hid h; clear h
  have HM0 : Hid (Room (w.alloc (.cells #[.int .i64 0, .int .i64 0, .int .i64 0] 26)) w.heap.size 1) := by show Room _ _ _; exact Room.new' rfl rfl
  go_enter Try.func56, Try.ntmps56
  go_wp2_with fail
  refine (pick_any 40 (by omega) (by omega) (by omega) (h0.out.alloc _)).mono ?_
  rintro e w1 ⟨v, rfl, ⟨m, rfl, m0, m1⟩, hO, hR⟩
  have HM0 := Lib.hid (HM0.out.own hO (by simp) (by omega))
  have HO := Lib.hid (show Own R w w1 from Own.after ((Below.refl _ _).alloc (Nat.le_refl _) _) hO)
  have HR := Lib.hid hR
  have hz1 := hO.size
  (try simp at hz1)
  clear hO hR
  by_cases hm0 : m = 0
  · subst hm0
    obtain ⟨y0_0, e0_0⟩ := Option.isSome_iff_exists.1 (HM0.out 0 (by omega)).1
    have f0_0 := (HM0.out 0 (by omega)).2
    obtain ⟨y0_1, e0_1⟩ := Option.isSome_iff_exists.1 (HM0.out 1 (by omega)).1
    have f0_1 := (HM0.out 1 (by omega)).2
    obtain ⟨y0_2, e0_2⟩ := Option.isSome_iff_exists.1 (HM0.out 2 (by omega)).1
    have f0_2 := (HM0.out 2 (by omega)).2
    go_wp2
    have HR := Lib.hid (HR.out.mono (show _ ≤ k + 8 by omega))
    refine bodyPost_ret (v := .agg #[.int .i64 2, .int .i64 4, .int .i64 2]) (by simp [results, Try.results56, go_sem, *]) rfl ⟨_, rfl, ⟨⟨2, 4, 2⟩, rfl⟩, (by (repeat' first | (with_reducible exact HO.out) | (with_reducible refine Own.alloc ?_ _) | (with_reducible refine Own.setNew ?_ (by first | omega | (simp <;> omega)) _) | (with_reducible refine Own.drewN ?_ _) | (with_reducible refine Own.drew ?_))), (by (repeat' first | (with_reducible exact HR.out) | (with_reducible refine Rd.alloc ?_ _) | (with_reducible refine Rd.put ?_ (by first | omega | (simp <;> omega)) _) | (with_reducible refine Rd.drewN ?_ _) | (with_reducible refine Rd.drew ?_)))⟩
  by_cases hm1 : m = 1
  · subst hm1
    obtain ⟨y0_0, e0_0⟩ := Option.isSome_iff_exists.1 (HM0.out 0 (by omega)).1
    have f0_0 := (HM0.out 0 (by omega)).2
    obtain ⟨y0_1, e0_1⟩ := Option.isSome_iff_exists.1 (HM0.out 1 (by omega)).1
    have f0_1 := (HM0.out 1 (by omega)).2
    obtain ⟨y0_2, e0_2⟩ := Option.isSome_iff_exists.1 (HM0.out 2 (by omega)).1
    have f0_2 := (HM0.out 2 (by omega)).2
    go_wp2
    have HR := Lib.hid (HR.out.mono (show _ ≤ k + 8 by omega))
    refine bodyPost_ret (v := .agg #[.int .i64 1, .int .i64 0, .int .i64 0]) (by simp [results, Try.results56, go_sem, *]) rfl ⟨_, rfl, ⟨⟨1, 0, 0⟩, rfl⟩, (by (repeat' first | (with_reducible exact HO.out) | (with_reducible refine Own.alloc ?_ _) | (with_reducible refine Own.setNew ?_ (by first | omega | (simp <;> omega)) _) | (with_reducible refine Own.drewN ?_ _) | (with_reducible refine Own.drew ?_))), (by (repeat' first | (with_reducible exact HR.out) | (with_reducible refine Rd.alloc ?_ _) | (with_reducible refine Rd.put ?_ (by first | omega | (simp <;> omega)) _) | (with_reducible refine Rd.drewN ?_ _) | (with_reducible refine Rd.drew ?_)))⟩
  by_cases hm2 : m = 2
  · subst hm2
    obtain ⟨y0_0, e0_0⟩ := Option.isSome_iff_exists.1 (HM0.out 0 (by omega)).1
    have f0_0 := (HM0.out 0 (by omega)).2
    obtain ⟨y0_1, e0_1⟩ := Option.isSome_iff_exists.1 (HM0.out 1 (by omega)).1
    have f0_1 := (HM0.out 1 (by omega)).2
    obtain ⟨y0_2, e0_2⟩ := Option.isSome_iff_exists.1 (HM0.out 2 (by omega)).1
    have f0_2 := (HM0.out 2 (by omega)).2
    go_wp2
    have HR := Lib.hid (HR.out.mono (show _ ≤ k + 8 by omega))
    refine bodyPost_ret (v := .agg #[.int .i64 2000000000, .int .i64 1, .int .i64 7]) (by simp [results, Try.results56, go_sem, *]) rfl ⟨_, rfl, ⟨⟨2000000000, 1, 7⟩, rfl⟩, (by (repeat' first | (with_reducible exact HO.out) | (with_reducible refine Own.alloc ?_ _) | (with_reducible refine Own.setNew ?_ (by first | omega | (simp <;> omega)) _) | (with_reducible refine Own.drewN ?_ _) | (with_reducible refine Own.drew ?_))), (by (repeat' first | (with_reducible exact HR.out) | (with_reducible refine Rd.alloc ?_ _) | (with_reducible refine Rd.put ?_ (by first | omega | (simp <;> omega)) _) | (with_reducible refine Rd.drewN ?_ _) | (with_reducible refine Rd.drew ?_)))⟩
  by_cases hm3 : m = 3
  · subst hm3
    obtain ⟨y0_0, e0_0⟩ := Option.isSome_iff_exists.1 (HM0.out 0 (by omega)).1
    have f0_0 := (HM0.out 0 (by omega)).2
    obtain ⟨y0_1, e0_1⟩ := Option.isSome_iff_exists.1 (HM0.out 1 (by omega)).1
    have f0_1 := (HM0.out 1 (by omega)).2
    obtain ⟨y0_2, e0_2⟩ := Option.isSome_iff_exists.1 (HM0.out 2 (by omega)).1
    have f0_2 := (HM0.out 2 (by omega)).2
    go_wp2
    have HR := Lib.hid (HR.out.mono (show _ ≤ k + 8 by omega))
    refine bodyPost_ret (v := .agg #[.int .i64 0, .int .i64 0, .int .i64 1]) (by simp [results, Try.results56, go_sem, *]) rfl ⟨_, rfl, ⟨⟨0, 0, 1⟩, rfl⟩, (by (repeat' first | (with_reducible exact HO.out) | (with_reducible refine Own.alloc ?_ _) | (with_reducible refine Own.setNew ?_ (by first | omega | (simp <;> omega)) _) | (with_reducible refine Own.drewN ?_ _) | (with_reducible refine Own.drew ?_))), (by (repeat' first | (with_reducible exact HR.out) | (with_reducible refine Rd.alloc ?_ _) | (with_reducible refine Rd.put ?_ (by first | omega | (simp <;> omega)) _) | (with_reducible refine Rd.drewN ?_ _) | (with_reducible refine Rd.drew ?_)))⟩
  have q0 : (m == 0) = false := by simpa using hm0
  have q1 : (m == 1) = false := by simpa using hm1
  have q2 : (m == 2) = false := by simpa using hm2
  have q3 : (m == 3) = false := by simpa using hm3
  clear hm0 hm1 hm2 hm3
  go_wp2_with fail
  refine (pick_any 13 (by omega) (by omega) (by omega) HR.out).mono ?_
  rintro e w2 ⟨v, rfl, ⟨x, rfl, x0, x1⟩, hO, hR⟩
  have HM0 := Lib.hid (HM0.out.own hO (by omega) (by omega))
  have HO := Lib.hid (HO.out.trans hO)
  have HR := Lib.hid hR
  have hz2 := hO.size
  clear hO hR
  go_wp2_with fail
  refine (pick_any 9 (by omega) (by omega) (by omega) HR.out).mono ?_
  rintro e w3 ⟨v, rfl, ⟨y, rfl, y0, y1⟩, hO, hR⟩
  have HM0 := Lib.hid (HM0.out.own hO (by omega) (by omega))
  have HO := Lib.hid (HO.out.trans hO)
  have HR := Lib.hid hR
  have hz3 := hO.size
  clear hO hR
  go_wp2_with fail
  refine (pick_any 2 (by omega) (by omega) (by omega) HR.out).mono ?_
  rintro e w4 ⟨v, rfl, ⟨z, rfl, z0, z1⟩, hO, hR⟩
  have HM0 := Lib.hid (HM0.out.own hO (by omega) (by omega))
  have HO := Lib.hid (HO.out.trans hO)
  have HR := Lib.hid hR
  have hz4 := hO.size
  clear hO hR
  have hyz : -4 ≤ (y - 4) * z ∧ (y - 4) * z ≤ 4 := by
    have : z = 0 ∨ z = 1 := by omega
    rcases this with rfl | rfl <;> omega
  go_wp2_with fail
  refine (pick_any 5 (by omega) (by omega) (by omega) HR.out).mono ?_
  rintro e w5 ⟨v, rfl, ⟨u, rfl, u0, u1⟩, hO, hR⟩
  have HM0 := Lib.hid (HM0.out.own hO (by omega) (by omega))
  have HO := Lib.hid (HO.out.trans hO)
  have HR := Lib.hid hR
  have hz5 := hO.size
  clear hO hR
  go_wp2_with fail
  refine (l2Low_any (x - 6) ((y - 4) * z) (1 + u) (by omega) (by omega) (by omega) (by omega) (by omega) (by omega) _).mono ?_
  rintro e w6 ho
  obtain ⟨rfl, hb⟩ := ho.fn
  have HM0 := Lib.hid (HM0.out.below hb (by omega))
  have HO := Lib.hid (HO.out.below hb)
  have HR := Lib.hid (HR.out.next hb)
  have hz6 := hb.size
  clear ho hb
  obtain ⟨y0_0, e0_0⟩ := Option.isSome_iff_exists.1 (HM0.out 0 (by omega)).1
  have f0_0 := (HM0.out 0 (by omega)).2
  obtain ⟨y0_1, e0_1⟩ := Option.isSome_iff_exists.1 (HM0.out 1 (by omega)).1
  have f0_1 := (HM0.out 1 (by omega)).2
  obtain ⟨y0_2, e0_2⟩ := Option.isSome_iff_exists.1 (HM0.out 2 (by omega)).1
  have f0_2 := (HM0.out 2 (by omega)).2
  have hne : ¬ w.heap.size = w6.heap.size := by omega
  have hne2 : ¬ w6.heap.size = w.heap.size := by omega
  have hne3 : w.heap.size < w6.heap.size := by omega
  have hRw : R < w6.heap.size := HR.out.lt
  go_wp2
  have HR := Lib.hid (HR.out.mono (show _ ≤ k + 8 by omega))
  refine bodyPost_ret (v := .agg #[.int .i64 (low (x - 6) ((y - 4) * z) (1 + u)).1.re, .int .i64 (low (x - 6) ((y - 4) * z) (1 + u)).1.im, .int .i64 (low (x - 6) ((y - 4) * z) (1 + u)).1.den]) (by simp [results, Try.results56, go_sem, *]) rfl ⟨_, rfl, ⟨⟨(low (x - 6) ((y - 4) * z) (1 + u)).1.re, (low (x - 6) ((y - 4) * z) (1 + u)).1.im, (low (x - 6) ((y - 4) * z) (1 + u)).1.den⟩, rfl⟩, (by (repeat' first | (with_reducible exact HO.out) | (with_reducible refine Own.alloc ?_ _) | (with_reducible refine Own.setNew ?_ (by first | omega | (simp <;> omega)) _) | (with_reducible refine Own.drewN ?_ _) | (with_reducible refine Own.drew ?_))), (by (repeat' first | (with_reducible exact HR.out) | (with_reducible refine Rd.alloc ?_ _) | (with_reducible refine Rd.put ?_ (by first | omega | (simp <;> omega)) _) | (with_reducible refine Rd.drewN ?_ _) | (with_reducible refine Rd.drew ?_)))⟩
end Go.Proofs.Ytcpdapfcbnhgaaa
