/- Contracts: draws of fractions and vectors. -/
import Derived.Test.YtmcokdiopcpifaaDoorPjG1
import Derived.Test.YtmcokdiopcpifaaDoorPjI
import Derived.Test.YtmcokdiopcpifaaDoorPjL
set_option maxRecDepth 100000
namespace Go.Proofs.YtmcokdiopcpifaaDoor
open Go.RowKit Pol
theorem Room.own {w w1 : World} {B n R : Nat} (h : Room w B n) (hO : Own R w w1) (hB : B < w.heap.size) (hne : B ≠ R) : Room w1 B n := fun j hj => by
  rw [hO.cell hB hne, hO.frozen hB hne]; exact h j hj
theorem BoxAt.own {w w1 : World} {B n R : Nat} {g : Nat → Fr} (h : BoxAt w B g n) (hO : Own R w w1) (hB : B < w.heap.size) (hne : B ≠ R) : BoxAt w1 B g n := fun k hk => by
  rw [hO.cell hB hne, hO.cell hB hne, hO.cell hB hne]; exact h k hk
theorem srcF (f : Fr) (k : Nat) (hk : k < 1) : (#[.int .i64 f.re, .int .i64 f.im, .int .i64 f.den] : Array Value)[k * 3]? = some (.int .i64 f.re) ∧ (#[.int .i64 f.re, .int .i64 f.im, .int .i64 f.den] : Array Value)[k * 3 + 1]? = some (.int .i64 f.im) ∧ (#[.int .i64 f.re, .int .i64 f.im, .int .i64 f.den] : Array Value)[k * 3 + 2]? = some (.int .i64 f.den) := by
  obtain rfl : k = 0 := by omega
  exact ⟨rfl, rfl, rfl⟩
def FrP (v : Value) : Prop := ∃ f : Fr, v = .agg #[.int .i64 f.re, .int .i64 f.im, .int .i64 f.den]
def J2P (v : Value) : Prop := ∃ f : J2, v = .agg #[.int .i64 f.x.re, .int .i64 f.x.im, .int .i64 f.x.den, .int .i64 f.y.re, .int .i64 f.y.im, .int .i64 f.y.den]
def M4P (v : Value) : Prop := ∃ f : M4, v = .agg #[.int .i64 f.a.re, .int .i64 f.a.im, .int .i64 f.a.den, .int .i64 f.b.re, .int .i64 f.b.im, .int .i64 f.b.den, .int .i64 f.c.re, .int .i64 f.c.im, .int .i64 f.c.den, .int .i64 f.d.re, .int .i64 f.d.im, .int .i64 f.d.den]
set_option maxRecDepth 100000 in
set_option maxHeartbeats 8000000 in
theorem l91Frac_any {N R : Nat} {a0 : Option Addr} {len cap k : Nat} {w : World} (hk : k ≤ 90000) (h : Rd N R a0 len cap k w) :
    Calls Tryd.prog 84 #[.pointer (some ⟨R, 0, none⟩)] w (RdOut FrP N R a0 len cap (k + 8) w) := by
  have hRl := h.lt
  have h0 := Lib.hid h; clear h
  have HM0 : Hid (Room (w.alloc (.cells #[.int .i64 0, .int .i64 0, .int .i64 0] 23)) w.heap.size 1) := by show Room _ _ _; exact Room.new' rfl rfl
  go_enter Tryd.func84, Tryd.ntmps84
  go_wp2_with fail
  refine (pick_any 40 (by omega) (by omega) (by omega) (h0.out.alloc _)).mono ?_
  rintro e w1 ⟨v, rfl, ⟨m, rfl, m0, m1⟩, hO, hR⟩
  have HM0 := Lib.hid (HM0.out.own hO (by simp) (by omega))
  have HO := Lib.hid (show Own R w w1 from Own.after ((Below.refl _ _).alloc (Nat.le_refl _) _) hO)
  have HR := Lib.hid hR
  have hz1 := hO.size
  (try simp at hz1)
  clear hO hR
  by_cases hm0 : m = 0
  · subst hm0
    obtain ⟨y0_0, e0_0⟩ := Option.isSome_iff_exists.1 (HM0.out 0 (by omega)).1
    have f0_0 := (HM0.out 0 (by omega)).2
    obtain ⟨y0_1, e0_1⟩ := Option.isSome_iff_exists.1 (HM0.out 1 (by omega)).1
    have f0_1 := (HM0.out 1 (by omega)).2
    obtain ⟨y0_2, e0_2⟩ := Option.isSome_iff_exists.1 (HM0.out 2 (by omega)).1
    have f0_2 := (HM0.out 2 (by omega)).2
    go_wp2
    have HR := Lib.hid (HR.out.mono (show _ ≤ k + 8 by omega))
    refine bodyPost_ret (v := .agg #[.int .i64 2, .int .i64 4, .int .i64 2]) (by simp [results, Tryd.results84, go_sem, *]) rfl ⟨_, rfl, ⟨⟨2, 4, 2⟩, rfl⟩, (by (repeat' first | (with_reducible exact HO.out) | (with_reducible refine Own.alloc ?_ _) | (with_reducible refine Own.setNew ?_ (by first | omega | (simp <;> omega)) _) | (with_reducible refine Own.drewN ?_ _) | (with_reducible refine Own.drew ?_))), (by (repeat' first | (with_reducible exact HR.out) | (with_reducible refine Rd.alloc ?_ _) | (with_reducible refine Rd.put ?_ (by first | omega | (simp <;> omega)) _) | (with_reducible refine Rd.drewN ?_ _) | (with_reducible refine Rd.drew ?_)))⟩
  by_cases hm1 : m = 1
  · subst hm1
    obtain ⟨y0_0, e0_0⟩ := Option.isSome_iff_exists.1 (HM0.out 0 (by omega)).1
    have f0_0 := (HM0.out 0 (by omega)).2
    obtain ⟨y0_1, e0_1⟩ := Option.isSome_iff_exists.1 (HM0.out 1 (by omega)).1
    have f0_1 := (HM0.out 1 (by omega)).2
    obtain ⟨y0_2, e0_2⟩ := Option.isSome_iff_exists.1 (HM0.out 2 (by omega)).1
    have f0_2 := (HM0.out 2 (by omega)).2
    go_wp2
    have HR := Lib.hid (HR.out.mono (show _ ≤ k + 8 by omega))
    refine bodyPost_ret (v := .agg #[.int .i64 1, .int .i64 0, .int .i64 0]) (by simp [results, Tryd.results84, go_sem, *]) rfl ⟨_, rfl, ⟨⟨1, 0, 0⟩, rfl⟩, (by (repeat' first | (with_reducible exact HO.out) | (with_reducible refine Own.alloc ?_ _) | (with_reducible refine Own.setNew ?_ (by first | omega | (simp <;> omega)) _) | (with_reducible refine Own.drewN ?_ _) | (with_reducible refine Own.drew ?_))), (by (repeat' first | (with_reducible exact HR.out) | (with_reducible refine Rd.alloc ?_ _) | (with_reducible refine Rd.put ?_ (by first | omega | (simp <;> omega)) _) | (with_reducible refine Rd.drewN ?_ _) | (with_reducible refine Rd.drew ?_)))⟩
  by_cases hm2 : m = 2
  · subst hm2
    obtain ⟨y0_0, e0_0⟩ := Option.isSome_iff_exists.1 (HM0.out 0 (by omega)).1
    have f0_0 := (HM0.out 0 (by omega)).2
    obtain ⟨y0_1, e0_1⟩ := Option.isSome_iff_exists.1 (HM0.out 1 (by omega)).1
    have f0_1 := (HM0.out 1 (by omega)).2
    obtain ⟨y0_2, e0_2⟩ := Option.isSome_iff_exists.1 (HM0.out 2 (by omega)).1
    have f0_2 := (HM0.out 2 (by omega)).2
    go_wp2
    have HR := Lib.hid (HR.out.mono (show _ ≤ k + 8 by omega))
    refine bodyPost_ret (v := .agg #[.int .i64 2000000000, .int .i64 1, .int .i64 7]) (by simp [results, Tryd.results84, go_sem, *]) rfl ⟨_, rfl, ⟨⟨2000000000, 1, 7⟩, rfl⟩, (by (repeat' first | (with_reducible exact HO.out) | (with_reducible refine Own.alloc ?_ _) | (with_reducible refine Own.setNew ?_ (by first | omega | (simp <;> omega)) _) | (with_reducible refine Own.drewN ?_ _) | (with_reducible refine Own.drew ?_))), (by (repeat' first | (with_reducible exact HR.out) | (with_reducible refine Rd.alloc ?_ _) | (with_reducible refine Rd.put ?_ (by first | omega | (simp <;> omega)) _) | (with_reducible refine Rd.drewN ?_ _) | (with_reducible refine Rd.drew ?_)))⟩
  by_cases hm3 : m = 3
  · subst hm3
    obtain ⟨y0_0, e0_0⟩ := Option.isSome_iff_exists.1 (HM0.out 0 (by omega)).1
    have f0_0 := (HM0.out 0 (by omega)).2
    obtain ⟨y0_1, e0_1⟩ := Option.isSome_iff_exists.1 (HM0.out 1 (by omega)).1
    have f0_1 := (HM0.out 1 (by omega)).2
    obtain ⟨y0_2, e0_2⟩ := Option.isSome_iff_exists.1 (HM0.out 2 (by omega)).1
    have f0_2 := (HM0.out 2 (by omega)).2
    go_wp2
    have HR := Lib.hid (HR.out.mono (show _ ≤ k + 8 by omega))
    refine bodyPost_ret (v := .agg #[.int .i64 0, .int .i64 0, .int .i64 1]) (by simp [results, Tryd.results84, go_sem, *]) rfl ⟨_, rfl, ⟨⟨0, 0, 1⟩, rfl⟩, (by (repeat' first | (with_reducible exact HO.out) | (with_reducible refine Own.alloc ?_ _) | (with_reducible refine Own.setNew ?_ (by first | omega | (simp <;> omega)) _) | (with_reducible refine Own.drewN ?_ _) | (with_reducible refine Own.drew ?_))), (by (repeat' first | (with_reducible exact HR.out) | (with_reducible refine Rd.alloc ?_ _) | (with_reducible refine Rd.put ?_ (by first | omega | (simp <;> omega)) _) | (with_reducible refine Rd.drewN ?_ _) | (with_reducible refine Rd.drew ?_)))⟩
  have q0 : (m == 0) = false := by simpa using hm0
  have q1 : (m == 1) = false := by simpa using hm1
  have q2 : (m == 2) = false := by simpa using hm2
  have q3 : (m == 3) = false := by simpa using hm3
  clear hm0 hm1 hm2 hm3
  go_wp2_with fail
  refine (pick_any 13 (by omega) (by omega) (by omega) HR.out).mono ?_
  rintro e w2 ⟨v, rfl, ⟨x, rfl, x0, x1⟩, hO, hR⟩
  have HM0 := Lib.hid (HM0.out.own hO (by omega) (by omega))
  have HO := Lib.hid (HO.out.trans hO)
  have HR := Lib.hid hR
  have hz2 := hO.size
  clear hO hR
  go_wp2_with fail
  refine (pick_any 9 (by omega) (by omega) (by omega) HR.out).mono ?_
  rintro e w3 ⟨v, rfl, ⟨y, rfl, y0, y1⟩, hO, hR⟩
  have HM0 := Lib.hid (HM0.out.own hO (by omega) (by omega))
  have HO := Lib.hid (HO.out.trans hO)
  have HR := Lib.hid hR
  have hz3 := hO.size
  clear hO hR
  go_wp2_with fail
  refine (pick_any 2 (by omega) (by omega) (by omega) HR.out).mono ?_
  rintro e w4 ⟨v, rfl, ⟨z, rfl, z0, z1⟩, hO, hR⟩
  have HM0 := Lib.hid (HM0.out.own hO (by omega) (by omega))
  have HO := Lib.hid (HO.out.trans hO)
  have HR := Lib.hid hR
  have hz4 := hO.size
  clear hO hR
  have hyz : -4 ≤ (y - 4) * z ∧ (y - 4) * z ≤ 4 := by
    have : z = 0 ∨ z = 1 := by omega
    rcases this with rfl | rfl <;> omega
  go_wp2_with fail
  refine (pick_any 5 (by omega) (by omega) (by omega) HR.out).mono ?_
  rintro e w5 ⟨v, rfl, ⟨u, rfl, u0, u1⟩, hO, hR⟩
  have HM0 := Lib.hid (HM0.out.own hO (by omega) (by omega))
  have HO := Lib.hid (HO.out.trans hO)
  have HR := Lib.hid hR
  have hz5 := hO.size
  clear hO hR
  go_wp2_with fail
  refine (l2Low_any (x - 6) ((y - 4) * z) (1 + u) (by omega) (by omega) (by omega) (by omega) (by omega) (by omega) _).mono ?_
  rintro e w6 ho
  obtain ⟨rfl, hb⟩ := ho.fn
  have HM0 := Lib.hid (HM0.out.below hb (by omega))
  have HO := Lib.hid (HO.out.below hb)
  have HR := Lib.hid (HR.out.next hb)
  have hz6 := hb.size
  clear ho hb
  obtain ⟨y0_0, e0_0⟩ := Option.isSome_iff_exists.1 (HM0.out 0 (by omega)).1
  have f0_0 := (HM0.out 0 (by omega)).2
  obtain ⟨y0_1, e0_1⟩ := Option.isSome_iff_exists.1 (HM0.out 1 (by omega)).1
  have f0_1 := (HM0.out 1 (by omega)).2
  obtain ⟨y0_2, e0_2⟩ := Option.isSome_iff_exists.1 (HM0.out 2 (by omega)).1
  have f0_2 := (HM0.out 2 (by omega)).2
  have hne : ¬ w.heap.size = w6.heap.size := by omega
  have hne2 : ¬ w6.heap.size = w.heap.size := by omega
  have hne3 : w.heap.size < w6.heap.size := by omega
  have hRw : R < w6.heap.size := HR.out.lt
  go_wp2
  have HR := Lib.hid (HR.out.mono (show _ ≤ k + 8 by omega))
  refine bodyPost_ret (v := .agg #[.int .i64 (low (x - 6) ((y - 4) * z) (1 + u)).1.re, .int .i64 (low (x - 6) ((y - 4) * z) (1 + u)).1.im, .int .i64 (low (x - 6) ((y - 4) * z) (1 + u)).1.den]) (by simp [results, Tryd.results84, go_sem, *]) rfl ⟨_, rfl, ⟨⟨(low (x - 6) ((y - 4) * z) (1 + u)).1.re, (low (x - 6) ((y - 4) * z) (1 + u)).1.im, (low (x - 6) ((y - 4) * z) (1 + u)).1.den⟩, rfl⟩, (by (repeat' first | (with_reducible exact HO.out) | (with_reducible refine Own.alloc ?_ _) | (with_reducible refine Own.setNew ?_ (by first | omega | (simp <;> omega)) _) | (with_reducible refine Own.drewN ?_ _) | (with_reducible refine Own.drew ?_))), (by (repeat' first | (with_reducible exact HR.out) | (with_reducible refine Rd.alloc ?_ _) | (with_reducible refine Rd.put ?_ (by first | omega | (simp <;> omega)) _) | (with_reducible refine Rd.drewN ?_ _) | (with_reducible refine Rd.drew ?_)))⟩
set_option maxRecDepth 100000 in
set_option maxHeartbeats 8000000 in
theorem l91Real_any {N R : Nat} {a0 : Option Addr} {len cap k : Nat} {w : World} (hk : k ≤ 50000) (h : Rd N R a0 len cap k w) :
    Calls Tryd.prog 128 #[.pointer (some ⟨R, 0, none⟩)] w (RdOut FrP N R a0 len cap (k + 20) w) := by
  have hRl := h.lt
  have h0 := Lib.hid h; clear h
  have HM0 : Hid (Room (w.alloc (.cells #[.int .i64 0, .int .i64 0, .int .i64 0] 23)) w.heap.size 1) := by show Room _ _ _; exact Room.new' rfl rfl
  have HO : Hid (Own R w (w.alloc (.cells #[.int .i64 0, .int .i64 0, .int .i64 0] 23))) := by show Own _ _ _; exact (Own.refl _ _).alloc _
  have HR := Lib.hid (h0.out.alloc (.cells #[.int .i64 0, .int .i64 0, .int .i64 0] 23))
  have hzz : w.heap.size ≤ w.heap.size := Nat.le_refl _
  go_enter Tryd.func128, Tryd.ntmps128
  go_wp2_with fail
  refine (l91Frac_any (by omega) HR.out).mono ?_
  rintro e w1 ⟨v, rfl, ⟨a, rfl⟩, hO, hR⟩
  have HM0 := Lib.hid (HM0.out.own hO (by first | omega | (simp <;> omega)) (by omega))
  have HO := Lib.hid (HO.out.trans hO)
  have HR := Lib.hid hR
  have hz1 := hO.size
  (try simp at hz1)
  clear hO hR
  have nA0 : w.heap.size < w1.heap.size := by omega
  have nB0 : ¬ w.heap.size = w1.heap.size := by omega
  have nC0 : ¬ w1.heap.size = w.heap.size := by omega
  have nR : R < w1.heap.size := HR.out.lt
  have HX : Hid (BoxAt (w1.alloc (.cells #[.int .i64 a.re, .int .i64 a.im, .int .i64 a.den] 23)) w1.heap.size (fun _ => a) 1) := by show BoxAt _ _ _ _; exact BoxAt.new _ _ _ _ _ (srcF a)
  have HM0 := Lib.hid (HM0.out.alloc (by omega) (.cells #[.int .i64 a.re, .int .i64 a.im, .int .i64 a.den] 23))
  have HO := Lib.hid (HO.out.alloc (.cells #[.int .i64 a.re, .int .i64 a.im, .int .i64 a.den] 23))
  have HR := Lib.hid (HR.out.alloc (.cells #[.int .i64 a.re, .int .i64 a.im, .int .i64 a.den] 23))
  go_wp2_with fail
  refine (pick_any 20 (by omega) (by omega) (by omega) HR.out).mono ?_
  rintro e w2 ⟨v, rfl, ⟨m, rfl, m0, m1⟩, hO, hR⟩
  have HM0 := Lib.hid (HM0.out.own hO (by first | omega | (simp <;> omega)) (by omega))
  have HX := Lib.hid (HX.out.own hO (by first | omega | (simp <;> omega)) (by omega))
  have HO := Lib.hid (HO.out.trans hO)
  have HR := Lib.hid hR
  have hz2 := hO.size
  (try simp at hz2)
  clear hO hR
  have nA0 : w.heap.size < w2.heap.size := by omega
  have nB0 : ¬ w.heap.size = w2.heap.size := by omega
  have nC0 : ¬ w2.heap.size = w.heap.size := by omega
  have nA1 : w1.heap.size < w2.heap.size := by omega
  have nB1 : ¬ w1.heap.size = w2.heap.size := by omega
  have nC1 : ¬ w2.heap.size = w1.heap.size := by omega
  have nR : R < w2.heap.size := HR.out.lt
  by_cases hm : m = 0
  · subst hm
    have vHX_0 : w2.cell? ⟨w1.heap.size, 0, none⟩ = some (.int .i64 a.re) := (HX.out 0 (by omega)).1
    have vHX_1 : w2.cell? ⟨w1.heap.size, 1, none⟩ = some (.int .i64 a.im) := (HX.out 0 (by omega)).2.1
    have vHX_2 : w2.cell? ⟨w1.heap.size, 2, none⟩ = some (.int .i64 a.den) := (HX.out 0 (by omega)).2.2
    obtain ⟨yHM0_0, eHM0_0⟩ := Option.isSome_iff_exists.1 (HM0.out 0 (by omega)).1
    have fHM0_0 := (HM0.out 0 (by omega)).2
    obtain ⟨yHM0_1, eHM0_1⟩ := Option.isSome_iff_exists.1 (HM0.out 1 (by omega)).1
    have fHM0_1 := (HM0.out 1 (by omega)).2
    obtain ⟨yHM0_2, eHM0_2⟩ := Option.isSome_iff_exists.1 (HM0.out 2 (by omega)).1
    have fHM0_2 := (HM0.out 2 (by omega)).2
    go_wp2
    have HR := Lib.hid (HR.out.mono (show _ ≤ k + 20 by omega))
    refine bodyPost_ret (v := .agg #[.int .i64 a.re, .int .i64 a.im, .int .i64 a.den]) (by simp [results, Tryd.results128, go_sem, *]) rfl ⟨_, rfl, ⟨a, rfl⟩, (by (repeat' first | (with_reducible exact HO.out) | (with_reducible refine Own.alloc ?_ _) | (with_reducible refine Own.setNew ?_ (by first | omega | (simp <;> omega)) _) | (with_reducible refine Own.drewN ?_ _) | (with_reducible refine Own.drew ?_))), (by (repeat' first | (with_reducible exact HR.out) | (with_reducible refine Rd.alloc ?_ _) | (with_reducible refine Rd.put ?_ (by first | omega | (simp <;> omega)) _) | (with_reducible refine Rd.drewN ?_ _) | (with_reducible refine Rd.drew ?_)))⟩
  have qm : (m == 0) = false := by simpa using hm
  clear hm
  go_wp2_with fail
  refine (pick_any 17 (by omega) (by omega) (by omega) HR.out).mono ?_
  rintro e w3 ⟨v, rfl, ⟨x, rfl, x0, x1⟩, hO, hR⟩
  have HM0 := Lib.hid (HM0.out.own hO (by first | omega | (simp <;> omega)) (by omega))
  have HX := Lib.hid (HX.out.own hO (by first | omega | (simp <;> omega)) (by omega))
  have HO := Lib.hid (HO.out.trans hO)
  have HR := Lib.hid hR
  have hz3 := hO.size
  (try simp at hz3)
  clear hO hR
  have nA0 : w.heap.size < w3.heap.size := by omega
  have nB0 : ¬ w.heap.size = w3.heap.size := by omega
  have nC0 : ¬ w3.heap.size = w.heap.size := by omega
  have nA1 : w1.heap.size < w3.heap.size := by omega
  have nB1 : ¬ w1.heap.size = w3.heap.size := by omega
  have nC1 : ¬ w3.heap.size = w1.heap.size := by omega
  have nR : R < w3.heap.size := HR.out.lt
  go_wp2_with fail
  refine (pick_any 4 (by omega) (by omega) (by omega) HR.out).mono ?_
  rintro e w4 ⟨v, rfl, ⟨u, rfl, u0, u1⟩, hO, hR⟩
  have HM0 := Lib.hid (HM0.out.own hO (by first | omega | (simp <;> omega)) (by omega))
  have HX := Lib.hid (HX.out.own hO (by first | omega | (simp <;> omega)) (by omega))
  have HO := Lib.hid (HO.out.trans hO)
  have HR := Lib.hid hR
  have hz4 := hO.size
  (try simp at hz4)
  clear hO hR
  have nA0 : w.heap.size < w4.heap.size := by omega
  have nB0 : ¬ w.heap.size = w4.heap.size := by omega
  have nC0 : ¬ w4.heap.size = w.heap.size := by omega
  have nA1 : w1.heap.size < w4.heap.size := by omega
  have nB1 : ¬ w1.heap.size = w4.heap.size := by omega
  have nC1 : ¬ w4.heap.size = w1.heap.size := by omega
  have nR : R < w4.heap.size := HR.out.lt
  go_wp2_with fail
  refine (l2Low_any (x - 8) 0 (1 + u) (by omega) (by omega) (by omega) (by omega) (by omega) (by omega) _).mono ?_
  rintro e w5 ho
  obtain ⟨rfl, hb⟩ := ho.fn
  have HM0 := Lib.hid (HM0.out.below hb (by first | omega | (simp <;> omega)))
  have HX := Lib.hid (HX.out.below hb (by first | omega | (simp <;> omega)))
  have HO := Lib.hid (HO.out.below hb)
  have HR := Lib.hid (HR.out.next hb)
  have hz5 := hb.size
  (try simp at hz5)
  clear ho hb
  have nA0 : w.heap.size < w5.heap.size := by omega
  have nB0 : ¬ w.heap.size = w5.heap.size := by omega
  have nC0 : ¬ w5.heap.size = w.heap.size := by omega
  have nA1 : w1.heap.size < w5.heap.size := by omega
  have nB1 : ¬ w1.heap.size = w5.heap.size := by omega
  have nC1 : ¬ w5.heap.size = w1.heap.size := by omega
  have nR : R < w5.heap.size := HR.out.lt
  obtain ⟨yHM0_0, eHM0_0⟩ := Option.isSome_iff_exists.1 (HM0.out 0 (by omega)).1
  have fHM0_0 := (HM0.out 0 (by omega)).2
  obtain ⟨yHM0_1, eHM0_1⟩ := Option.isSome_iff_exists.1 (HM0.out 1 (by omega)).1
  have fHM0_1 := (HM0.out 1 (by omega)).2
  obtain ⟨yHM0_2, eHM0_2⟩ := Option.isSome_iff_exists.1 (HM0.out 2 (by omega)).1
  have fHM0_2 := (HM0.out 2 (by omega)).2
  go_wp2
  have HR := Lib.hid (HR.out.mono (show _ ≤ k + 20 by omega))
  refine bodyPost_ret (v := .agg #[.int .i64 (low (x - 8) 0 (1 + u)).1.re, .int .i64 (low (x - 8) 0 (1 + u)).1.im, .int .i64 (low (x - 8) 0 (1 + u)).1.den]) (by simp [results, Tryd.results128, go_sem, *]) rfl ⟨_, rfl, ⟨(low (x - 8) 0 (1 + u)).1, rfl⟩, (by (repeat' first | (with_reducible exact HO.out) | (with_reducible refine Own.alloc ?_ _) | (with_reducible refine Own.setNew ?_ (by first | omega | (simp <;> omega)) _) | (with_reducible refine Own.drewN ?_ _) | (with_reducible refine Own.drew ?_))), (by (repeat' first | (with_reducible exact HR.out) | (with_reducible refine Rd.alloc ?_ _) | (with_reducible refine Rd.put ?_ (by first | omega | (simp <;> omega)) _) | (with_reducible refine Rd.drewN ?_ _) | (with_reducible refine Rd.drew ?_)))⟩
set_option maxRecDepth 100000 in
set_option maxHeartbeats 8000000 in
theorem l91Jones_any {N R : Nat} {a0 : Option Addr} {len cap k : Nat} {w : World} (hk : k ≤ 50000) (h : Rd N R a0 len cap k w) :
    Calls Tryd.prog 83 #[.pointer (some ⟨R, 0, none⟩)] w (RdOut J2P N R a0 len cap (k + 20) w) := by
  have hRl := h.lt
  have h0 := Lib.hid h; clear h
  have HM0 : Hid (Room (w.alloc (.cells #[.int .i64 0, .int .i64 0, .int .i64 0, .int .i64 0, .int .i64 0, .int .i64 0] 47)) w.heap.size 2) := by show Room _ _ _; exact Room.new' rfl rfl
  have HO : Hid (Own R w (w.alloc (.cells #[.int .i64 0, .int .i64 0, .int .i64 0, .int .i64 0, .int .i64 0, .int .i64 0] 47))) := by show Own _ _ _; exact (Own.refl _ _).alloc _
  have HR := Lib.hid (h0.out.alloc (.cells #[.int .i64 0, .int .i64 0, .int .i64 0, .int .i64 0, .int .i64 0, .int .i64 0] 47))
  have hzz : w.heap.size ≤ w.heap.size := Nat.le_refl _
  go_enter Tryd.func83, Tryd.ntmps83
  go_wp2_with fail
  refine (l91Frac_any (by omega) HR.out).mono ?_
  rintro e w1 ⟨v, rfl, ⟨a, rfl⟩, hO, hR⟩
  have HM0 := Lib.hid (HM0.out.own hO (by first | omega | (simp <;> omega)) (by omega))
  have HO := Lib.hid (HO.out.trans hO)
  have HR := Lib.hid hR
  have hz1 := hO.size
  (try simp at hz1)
  clear hO hR
  have nA0 : w.heap.size < w1.heap.size := by omega
  have nB0 : ¬ w.heap.size = w1.heap.size := by omega
  have nC0 : ¬ w1.heap.size = w.heap.size := by omega
  have nR : R < w1.heap.size := HR.out.lt
  have HX : Hid (BoxAt (w1.alloc (.cells #[.int .i64 a.re, .int .i64 a.im, .int .i64 a.den] 23)) w1.heap.size (fun _ => a) 1) := by show BoxAt _ _ _ _; exact BoxAt.new _ _ _ _ _ (srcF a)
  have HM0 := Lib.hid (HM0.out.alloc (by omega) (.cells #[.int .i64 a.re, .int .i64 a.im, .int .i64 a.den] 23))
  have HO := Lib.hid (HO.out.alloc (.cells #[.int .i64 a.re, .int .i64 a.im, .int .i64 a.den] 23))
  have HR := Lib.hid (HR.out.alloc (.cells #[.int .i64 a.re, .int .i64 a.im, .int .i64 a.den] 23))
  have HXR : Hid (Room (w1.alloc (.cells #[.int .i64 a.re, .int .i64 a.im, .int .i64 a.den] 23)) w1.heap.size 1) := by show Room _ _ _; exact Room.new' rfl rfl
  go_wp2_with fail
  refine (l91Frac_any (by omega) HR.out).mono ?_
  rintro e w2 ⟨v, rfl, ⟨b, rfl⟩, hO, hR⟩
  have HM0 := Lib.hid (HM0.out.own hO (by first | omega | (simp <;> omega)) (by omega))
  have HXR := Lib.hid (HXR.out.own hO (by first | omega | (simp <;> omega)) (by omega))
  have HX := Lib.hid (HX.out.own hO (by first | omega | (simp <;> omega)) (by omega))
  have HO := Lib.hid (HO.out.trans hO)
  have HR := Lib.hid hR
  have hz2 := hO.size
  (try simp at hz2)
  clear hO hR
  have nA0 : w.heap.size < w2.heap.size := by omega
  have nB0 : ¬ w.heap.size = w2.heap.size := by omega
  have nC0 : ¬ w2.heap.size = w.heap.size := by omega
  have nA1 : w1.heap.size < w2.heap.size := by omega
  have nB1 : ¬ w1.heap.size = w2.heap.size := by omega
  have nC1 : ¬ w2.heap.size = w1.heap.size := by omega
  have nA1 : w1.heap.size < w2.heap.size := by omega
  have nB1 : ¬ w1.heap.size = w2.heap.size := by omega
  have nC1 : ¬ w2.heap.size = w1.heap.size := by omega
  have nR : R < w2.heap.size := HR.out.lt
  have HY : Hid (BoxAt (w2.alloc (.cells #[.int .i64 b.re, .int .i64 b.im, .int .i64 b.den] 23)) w2.heap.size (fun _ => b) 1) := by show BoxAt _ _ _ _; exact BoxAt.new _ _ _ _ _ (srcF b)
  have HM0 := Lib.hid (HM0.out.alloc (by omega) (.cells #[.int .i64 b.re, .int .i64 b.im, .int .i64 b.den] 23))
  have HXR := Lib.hid (HXR.out.alloc (by omega) (.cells #[.int .i64 b.re, .int .i64 b.im, .int .i64 b.den] 23))
  have HX := Lib.hid (HX.out.alloc (by omega) (.cells #[.int .i64 b.re, .int .i64 b.im, .int .i64 b.den] 23))
  have HO := Lib.hid (HO.out.alloc (.cells #[.int .i64 b.re, .int .i64 b.im, .int .i64 b.den] 23))
  have HR := Lib.hid (HR.out.alloc (.cells #[.int .i64 b.re, .int .i64 b.im, .int .i64 b.den] 23))
  have HYR : Hid (Room (w2.alloc (.cells #[.int .i64 b.re, .int .i64 b.im, .int .i64 b.den] 23)) w2.heap.size 1) := by show Room _ _ _; exact Room.new' rfl rfl
  go_wp2_with fail
  refine (pick_any 10 (by omega) (by omega) (by omega) HR.out).mono ?_
  rintro e w3 ⟨v, rfl, ⟨m, rfl, m0, m1⟩, hO, hR⟩
  have HM0 := Lib.hid (HM0.out.own hO (by first | omega | (simp <;> omega)) (by omega))
  have HXR := Lib.hid (HXR.out.own hO (by first | omega | (simp <;> omega)) (by omega))
  have HYR := Lib.hid (HYR.out.own hO (by first | omega | (simp <;> omega)) (by omega))
  have HX := Lib.hid (HX.out.own hO (by first | omega | (simp <;> omega)) (by omega))
  have HY := Lib.hid (HY.out.own hO (by first | omega | (simp <;> omega)) (by omega))
  have HO := Lib.hid (HO.out.trans hO)
  have HR := Lib.hid hR
  have hz3 := hO.size
  (try simp at hz3)
  clear hO hR
  have nA0 : w.heap.size < w3.heap.size := by omega
  have nB0 : ¬ w.heap.size = w3.heap.size := by omega
  have nC0 : ¬ w3.heap.size = w.heap.size := by omega
  have nA1 : w1.heap.size < w3.heap.size := by omega
  have nB1 : ¬ w1.heap.size = w3.heap.size := by omega
  have nC1 : ¬ w3.heap.size = w1.heap.size := by omega
  have nA2 : w2.heap.size < w3.heap.size := by omega
  have nB2 : ¬ w2.heap.size = w3.heap.size := by omega
  have nC2 : ¬ w3.heap.size = w2.heap.size := by omega
  have nA1 : w1.heap.size < w3.heap.size := by omega
  have nB1 : ¬ w1.heap.size = w3.heap.size := by omega
  have nC1 : ¬ w3.heap.size = w1.heap.size := by omega
  have nA2 : w2.heap.size < w3.heap.size := by omega
  have nB2 : ¬ w2.heap.size = w3.heap.size := by omega
  have nC2 : ¬ w3.heap.size = w2.heap.size := by omega
  have nR : R < w3.heap.size := HR.out.lt
  have vHX_0 : w3.cell? ⟨w1.heap.size, 0, none⟩ = some (.int .i64 a.re) := (HX.out 0 (by omega)).1
  have vHX_1 : w3.cell? ⟨w1.heap.size, 1, none⟩ = some (.int .i64 a.im) := (HX.out 0 (by omega)).2.1
  have vHX_2 : w3.cell? ⟨w1.heap.size, 2, none⟩ = some (.int .i64 a.den) := (HX.out 0 (by omega)).2.2
  have vHY_0 : w3.cell? ⟨w2.heap.size, 0, none⟩ = some (.int .i64 b.re) := (HY.out 0 (by omega)).1
  have vHY_1 : w3.cell? ⟨w2.heap.size, 1, none⟩ = some (.int .i64 b.im) := (HY.out 0 (by omega)).2.1
  have vHY_2 : w3.cell? ⟨w2.heap.size, 2, none⟩ = some (.int .i64 b.den) := (HY.out 0 (by omega)).2.2
  obtain ⟨yHM0_0, eHM0_0⟩ := Option.isSome_iff_exists.1 (HM0.out 0 (by omega)).1
  have fHM0_0 := (HM0.out 0 (by omega)).2
  obtain ⟨yHM0_1, eHM0_1⟩ := Option.isSome_iff_exists.1 (HM0.out 1 (by omega)).1
  have fHM0_1 := (HM0.out 1 (by omega)).2
  obtain ⟨yHM0_2, eHM0_2⟩ := Option.isSome_iff_exists.1 (HM0.out 2 (by omega)).1
  have fHM0_2 := (HM0.out 2 (by omega)).2
  obtain ⟨yHM0_3, eHM0_3⟩ := Option.isSome_iff_exists.1 (HM0.out 3 (by omega)).1
  have fHM0_3 := (HM0.out 3 (by omega)).2
  obtain ⟨yHM0_4, eHM0_4⟩ := Option.isSome_iff_exists.1 (HM0.out 4 (by omega)).1
  have fHM0_4 := (HM0.out 4 (by omega)).2
  obtain ⟨yHM0_5, eHM0_5⟩ := Option.isSome_iff_exists.1 (HM0.out 5 (by omega)).1
  have fHM0_5 := (HM0.out 5 (by omega)).2
  have fX0 := (HXR.out 0 (by omega)).2
  have fY0 := (HYR.out 0 (by omega)).2
  have fX1 := (HXR.out 1 (by omega)).2
  have fY1 := (HYR.out 1 (by omega)).2
  have fX2 := (HXR.out 2 (by omega)).2
  have fY2 := (HYR.out 2 (by omega)).2
  have nX : ¬ w1.heap.size = w2.heap.size := by omega
  have nY : ¬ w2.heap.size = w1.heap.size := by omega
  have nX0 : ¬ w1.heap.size = w.heap.size := by omega
  have nY0 : ¬ w2.heap.size = w.heap.size := by omega
  have nX1 : ¬ w.heap.size = w1.heap.size := by omega
  have nY1 : ¬ w.heap.size = w2.heap.size := by omega
  clear HX HY HXR HYR HM0
  by_cases hm : m = 0
  · subst hm
    go_wp2
    have HR := Lib.hid (HR.out.mono (show _ ≤ k + 20 by omega))
    refine bodyPost_ret (v := .agg #[.int .i64 0, .int .i64 0, .int .i64 1, .int .i64 b.re, .int .i64 b.im, .int .i64 b.den]) (by simp [results, Tryd.results83, go_sem, *]) rfl ⟨_, rfl, ⟨⟨⟨0, 0, 1⟩, b⟩, rfl⟩, (by (repeat' first | (with_reducible exact HO.out) | (with_reducible refine Own.alloc ?_ _) | (with_reducible refine Own.setNew ?_ (by first | omega | (simp <;> omega)) _) | (with_reducible refine Own.drewN ?_ _) | (with_reducible refine Own.drew ?_))), (by (repeat' first | (with_reducible exact HR.out) | (with_reducible refine Rd.alloc ?_ _) | (with_reducible refine Rd.put ?_ (by first | omega | (simp <;> omega)) _) | (with_reducible refine Rd.drewN ?_ _) | (with_reducible refine Rd.drew ?_)))⟩
  have qm : (m == 0) = false := by simpa using hm
  clear hm
  by_cases hm : m = 1
  · subst hm
    go_wp2
    have HR := Lib.hid (HR.out.mono (show _ ≤ k + 20 by omega))
    refine bodyPost_ret (v := .agg #[.int .i64 a.re, .int .i64 a.im, .int .i64 a.den, .int .i64 0, .int .i64 0, .int .i64 1]) (by simp [results, Tryd.results83, go_sem, *]) rfl ⟨_, rfl, ⟨⟨a, ⟨0, 0, 1⟩⟩, rfl⟩, (by (repeat' first | (with_reducible exact HO.out) | (with_reducible refine Own.alloc ?_ _) | (with_reducible refine Own.setNew ?_ (by first | omega | (simp <;> omega)) _) | (with_reducible refine Own.drewN ?_ _) | (with_reducible refine Own.drew ?_))), (by (repeat' first | (with_reducible exact HR.out) | (with_reducible refine Rd.alloc ?_ _) | (with_reducible refine Rd.put ?_ (by first | omega | (simp <;> omega)) _) | (with_reducible refine Rd.drewN ?_ _) | (with_reducible refine Rd.drew ?_)))⟩
  have qn : (m == 1) = false := by simpa using hm
  clear hm
  go_wp2
  have HR := Lib.hid (HR.out.mono (show _ ≤ k + 20 by omega))
  refine bodyPost_ret (v := .agg #[.int .i64 a.re, .int .i64 a.im, .int .i64 a.den, .int .i64 b.re, .int .i64 b.im, .int .i64 b.den]) (by simp [results, Tryd.results83, go_sem, *]) rfl ⟨_, rfl, ⟨⟨a, b⟩, rfl⟩, (by (repeat' first | (with_reducible exact HO.out) | (with_reducible refine Own.alloc ?_ _) | (with_reducible refine Own.setNew ?_ (by first | omega | (simp <;> omega)) _) | (with_reducible refine Own.drewN ?_ _) | (with_reducible refine Own.drew ?_))), (by (repeat' first | (with_reducible exact HR.out) | (with_reducible refine Rd.alloc ?_ _) | (with_reducible refine Rd.put ?_ (by first | omega | (simp <;> omega)) _) | (with_reducible refine Rd.drewN ?_ _) | (with_reducible refine Rd.drew ?_)))⟩
end Go.Proofs.YtmcokdiopcpifaaDoor
