/- Filters do no more the second time. -/
import Derived.Test.YtcpdapfcbnhgaaaDW3
import Derived.Test.YtcpdapfcbnhgaaaQT
import Derived.Test.YtcpdapfcbnhgaaaQT2
import Derived.Test.YtcpdapfcbnhgaaaNC
import Derived.Test.YtcpdapfcbnhgaaaP
import Derived.Test.YtcpdapfcbnhgaaaV
import Derived.Test.YtcpdapfcbnhgaaaZ2
import Derived.Test.YtcpdapfcbnhgaaaEQ2
namespace Go.Proofs.Ytcpdapfcbnhgaaa
open Go.ChangeShapes Go.WideShapes Go.ChangeAt Go.RowKit Pol

set_option maxRecDepth 100000 in
set_option maxHeartbeats 40000000 in
theorem walk_FnFilter (a0 : Option Addr) (len cap : Nat) (w : World) (hcap : len ≤ cap) (HC : Code w.heap.size w a0 len) :
    Calls Try.prog 3 #[.slice a0 len cap] w fun e w' => e = .returned (.bool true) ∧ Below w.heap.size w w' := by
  by_cases hbig : 1048576 < len
  · have h1 : (1048576 : Int) < (len : Int) := by omega
    go_enter Try.func3, Try.ntmps3
    go_wp2
    go_ret
    exact ⟨rfl, Below.refl _ _⟩
  have h1 : ¬ (1048576 : Int) < (len : Int) := by omega
  go_enter Try.func3, Try.ntmps3
  go_wp2_with fail
  refine (DrawMatFilter_any a0 len cap _ hcap HC).mono ?_
  rintro e w1 ⟨p, q, rfl, hb⟩
  have HB := Lib.hid (show Below w.heap.size w w1 from hb)
  have hz1 := hb.size
  (try simp at hz1)
  clear hb
  cases hg : (gFil p q).2
  · skip
    have HG : Hid (gFil p q = (m4z, false)) := gFil_no hg
    go_wp2_with fail
    refine (ifil_any p q _).mono ?_
    rintro e w2 ho
    rw [HG.out] at ho
    obtain ⟨rfl, hb⟩ : e = .returned (.tuple #[.agg #[.int .i64 m4z.a.re, .int .i64 m4z.a.im, .int .i64 m4z.a.den, .int .i64 m4z.b.re, .int .i64 m4z.b.im, .int .i64 m4z.b.den, .int .i64 m4z.c.re, .int .i64 m4z.c.im, .int .i64 m4z.c.den, .int .i64 m4z.d.re, .int .i64 m4z.d.im, .int .i64 m4z.d.den], .bool false]) ∧ Below _ _ _ := ho.fn
    clear ho
    have HB := Lib.hid (show Below w.heap.size w w2 from HB.out.trans ((show Below _ _ _ from (Below.refl _ _)).trans (hb.mono (by first | omega | (simp <;> omega)))))
    have hz2 := hb.size
    (try simp at hz2)
    clear hb
    go_wp2_with fail
    refine (sfil_any p q _).mono ?_
    rintro e w3 ho
    rw [HG.out] at ho
    obtain ⟨rfl, hb⟩ : e = .returned (.tuple #[.agg #[.int .i64 m4z.a.re, .int .i64 m4z.a.im, .int .i64 m4z.a.den, .int .i64 m4z.b.re, .int .i64 m4z.b.im, .int .i64 m4z.b.den, .int .i64 m4z.c.re, .int .i64 m4z.c.im, .int .i64 m4z.c.den, .int .i64 m4z.d.re, .int .i64 m4z.d.im, .int .i64 m4z.d.den], .bool false]) ∧ Below _ _ _ := ho.fn
    clear ho
    have HB := Lib.hid (show Below w.heap.size w w3 from HB.out.trans ((show Below _ _ _ from ((Below.refl _ _).alloc (by omega) _)).trans (hb.mono (by first | omega | (simp <;> omega)))))
    have Ho : Hid (w3.rangeAt w2.heap.size 0 [.int .i64 m4z.a.re, .int .i64 m4z.a.im, .int .i64 m4z.a.den, .int .i64 m4z.b.re, .int .i64 m4z.b.im, .int .i64 m4z.b.den, .int .i64 m4z.c.re, .int .i64 m4z.c.im, .int .i64 m4z.c.den, .int .i64 m4z.d.re, .int .i64 m4z.d.im, .int .i64 m4z.d.den]) := rangeAt_below (rangeAt_new _ _ _) hb (by first | omega | (simp; done) | (simp <;> omega))
    have hz3 := hb.size
    (try simp at hz3)
    clear hb
    have nA0 : w2.heap.size < w3.heap.size := by omega
    have nB0 : ¬ w2.heap.size = w3.heap.size := by omega
    have nC0 : ¬ w3.heap.size = w2.heap.size := by omega
    have hEq1 : ∀ w, (Op.equalIn 10000 29 (.agg #[.int .i64 m4z.a.re, .int .i64 m4z.a.im, .int .i64 m4z.a.den, .int .i64 m4z.b.re, .int .i64 m4z.b.im, .int .i64 m4z.b.den, .int .i64 m4z.c.re, .int .i64 m4z.c.im, .int .i64 m4z.c.den, .int .i64 m4z.d.re, .int .i64 m4z.d.im, .int .i64 m4z.d.den]) (.agg #[.int .i64 m4z.a.re, .int .i64 m4z.a.im, .int .i64 m4z.a.den, .int .i64 m4z.b.re, .int .i64 m4z.b.im, .int .i64 m4z.b.den, .int .i64 m4z.c.re, .int .i64 m4z.c.im, .int .i64 m4z.c.den, .int .i64 m4z.d.re, .int .i64 m4z.d.im, .int .i64 m4z.d.den])).run Try.prog w = .ok true w := eqMat_run m4z
    have zo_0 : w3.cell? ⟨w2.heap.size, 0, none⟩ = some (.int .i64 m4z.a.re) := by have := Ho.out 0 _ rfl; rwa [Nat.zero_add] at this
    have zo_1 : w3.cell? ⟨w2.heap.size, 1, none⟩ = some (.int .i64 m4z.a.im) := by have := Ho.out 1 _ rfl; rwa [Nat.zero_add] at this
    have zo_2 : w3.cell? ⟨w2.heap.size, 2, none⟩ = some (.int .i64 m4z.a.den) := by have := Ho.out 2 _ rfl; rwa [Nat.zero_add] at this
    have zo_3 : w3.cell? ⟨w2.heap.size, 3, none⟩ = some (.int .i64 m4z.b.re) := by have := Ho.out 3 _ rfl; rwa [Nat.zero_add] at this
    have zo_4 : w3.cell? ⟨w2.heap.size, 4, none⟩ = some (.int .i64 m4z.b.im) := by have := Ho.out 4 _ rfl; rwa [Nat.zero_add] at this
    have zo_5 : w3.cell? ⟨w2.heap.size, 5, none⟩ = some (.int .i64 m4z.b.den) := by have := Ho.out 5 _ rfl; rwa [Nat.zero_add] at this
    have zo_6 : w3.cell? ⟨w2.heap.size, 6, none⟩ = some (.int .i64 m4z.c.re) := by have := Ho.out 6 _ rfl; rwa [Nat.zero_add] at this
    have zo_7 : w3.cell? ⟨w2.heap.size, 7, none⟩ = some (.int .i64 m4z.c.im) := by have := Ho.out 7 _ rfl; rwa [Nat.zero_add] at this
    have zo_8 : w3.cell? ⟨w2.heap.size, 8, none⟩ = some (.int .i64 m4z.c.den) := by have := Ho.out 8 _ rfl; rwa [Nat.zero_add] at this
    have zo_9 : w3.cell? ⟨w2.heap.size, 9, none⟩ = some (.int .i64 m4z.d.re) := by have := Ho.out 9 _ rfl; rwa [Nat.zero_add] at this
    have zo_10 : w3.cell? ⟨w2.heap.size, 10, none⟩ = some (.int .i64 m4z.d.im) := by have := Ho.out 10 _ rfl; rwa [Nat.zero_add] at this
    have zo_11 : w3.cell? ⟨w2.heap.size, 11, none⟩ = some (.int .i64 m4z.d.den) := by have := Ho.out 11 _ rfl; rwa [Nat.zero_add] at this
    go_wp2_with fail
    go_ret
    exact ⟨rfl, (by (repeat' first | (with_reducible exact HB.out) | with_reducible refine setCells_below _ _ _ ?_ (by first | omega | (simp <;> omega)) | with_reducible refine Below.setCell ?_ (by show _ ≤ _; first | omega | (simp <;> omega) | simp) _ | with_reducible refine Below.alloc ?_ (by first | omega | (simp <;> omega)) _ | with_reducible apply Below.drew))⟩
  · skip
    obtain ⟨m, hm⟩ : ∃ m, m = (gFil p q).1 := ⟨_, rfl⟩
    have hG : gFil p q = (m, true) := by rw [hm, ← hg]
    obtain ⟨l1, l2, l3⟩ := law_filter hG
    have HA := Lib.hid l2
    have HG := Lib.hid hG
    clear hG hm hg l2
    obtain ⟨X, r, hX⟩ : ∃ X r, mTm m m = (X, r) := ⟨_, _, rfl⟩
    obtain ⟨d, t, hd⟩ : ∃ d t, gDet m = (d, t) := ⟨_, _, rfl⟩
    have HXM := Lib.hid (fun (h : r = true) => l1 X (by rw [hX, h]))
    have HDZ := Lib.hid (fun (h : t = true) => l3 d (by rw [hd, h]))
    have HX := Lib.hid hX
    have HD := Lib.hid hd
    clear hX hd l1 l3
    go_wp2_with fail
    refine (ifil_any p q _).mono ?_
    rintro e w2 ho
    rw [HG.out] at ho
    obtain ⟨rfl, hb⟩ : e = .returned (.tuple #[.agg #[.int .i64 m.a.re, .int .i64 m.a.im, .int .i64 m.a.den, .int .i64 m.b.re, .int .i64 m.b.im, .int .i64 m.b.den, .int .i64 m.c.re, .int .i64 m.c.im, .int .i64 m.c.den, .int .i64 m.d.re, .int .i64 m.d.im, .int .i64 m.d.den], .bool true]) ∧ Below _ _ _ := ho.fn
    clear ho
    have HB := Lib.hid (show Below w.heap.size w w2 from HB.out.trans ((show Below _ _ _ from (Below.refl _ _)).trans (hb.mono (by first | omega | (simp <;> omega)))))
    have hz2 := hb.size
    (try simp at hz2)
    clear hb
    go_wp2_with fail
    refine (sfil_any p q _).mono ?_
    rintro e w3 ho
    rw [HG.out] at ho
    obtain ⟨rfl, hb⟩ : e = .returned (.tuple #[.agg #[.int .i64 m.a.re, .int .i64 m.a.im, .int .i64 m.a.den, .int .i64 m.b.re, .int .i64 m.b.im, .int .i64 m.b.den, .int .i64 m.c.re, .int .i64 m.c.im, .int .i64 m.c.den, .int .i64 m.d.re, .int .i64 m.d.im, .int .i64 m.d.den], .bool true]) ∧ Below _ _ _ := ho.fn
    clear ho
    have HB := Lib.hid (show Below w.heap.size w w3 from HB.out.trans ((show Below _ _ _ from ((Below.refl _ _).alloc (by omega) _)).trans (hb.mono (by first | omega | (simp <;> omega)))))
    have Ho : Hid (w3.rangeAt w2.heap.size 0 [.int .i64 m.a.re, .int .i64 m.a.im, .int .i64 m.a.den, .int .i64 m.b.re, .int .i64 m.b.im, .int .i64 m.b.den, .int .i64 m.c.re, .int .i64 m.c.im, .int .i64 m.c.den, .int .i64 m.d.re, .int .i64 m.d.im, .int .i64 m.d.den]) := rangeAt_below (rangeAt_new _ _ _) hb (by first | omega | (simp; done) | (simp <;> omega))
    have hz3 := hb.size
    (try simp at hz3)
    clear hb
    have nA0 : w2.heap.size < w3.heap.size := by omega
    have nB0 : ¬ w2.heap.size = w3.heap.size := by omega
    have nC0 : ¬ w3.heap.size = w2.heap.size := by omega
    have hEq1 : ∀ w, (Op.equalIn 10000 29 (.agg #[.int .i64 m.a.re, .int .i64 m.a.im, .int .i64 m.a.den, .int .i64 m.b.re, .int .i64 m.b.im, .int .i64 m.b.den, .int .i64 m.c.re, .int .i64 m.c.im, .int .i64 m.c.den, .int .i64 m.d.re, .int .i64 m.d.im, .int .i64 m.d.den]) (.agg #[.int .i64 m.a.re, .int .i64 m.a.im, .int .i64 m.a.den, .int .i64 m.b.re, .int .i64 m.b.im, .int .i64 m.b.den, .int .i64 m.c.re, .int .i64 m.c.im, .int .i64 m.c.den, .int .i64 m.d.re, .int .i64 m.d.im, .int .i64 m.d.den])).run Try.prog w = .ok true w := eqMat_run m
    have zo_0 : w3.cell? ⟨w2.heap.size, 0, none⟩ = some (.int .i64 m.a.re) := by have := Ho.out 0 _ rfl; rwa [Nat.zero_add] at this
    have zo_1 : w3.cell? ⟨w2.heap.size, 1, none⟩ = some (.int .i64 m.a.im) := by have := Ho.out 1 _ rfl; rwa [Nat.zero_add] at this
    have zo_2 : w3.cell? ⟨w2.heap.size, 2, none⟩ = some (.int .i64 m.a.den) := by have := Ho.out 2 _ rfl; rwa [Nat.zero_add] at this
    have zo_3 : w3.cell? ⟨w2.heap.size, 3, none⟩ = some (.int .i64 m.b.re) := by have := Ho.out 3 _ rfl; rwa [Nat.zero_add] at this
    have zo_4 : w3.cell? ⟨w2.heap.size, 4, none⟩ = some (.int .i64 m.b.im) := by have := Ho.out 4 _ rfl; rwa [Nat.zero_add] at this
    have zo_5 : w3.cell? ⟨w2.heap.size, 5, none⟩ = some (.int .i64 m.b.den) := by have := Ho.out 5 _ rfl; rwa [Nat.zero_add] at this
    have zo_6 : w3.cell? ⟨w2.heap.size, 6, none⟩ = some (.int .i64 m.c.re) := by have := Ho.out 6 _ rfl; rwa [Nat.zero_add] at this
    have zo_7 : w3.cell? ⟨w2.heap.size, 7, none⟩ = some (.int .i64 m.c.im) := by have := Ho.out 7 _ rfl; rwa [Nat.zero_add] at this
    have zo_8 : w3.cell? ⟨w2.heap.size, 8, none⟩ = some (.int .i64 m.c.den) := by have := Ho.out 8 _ rfl; rwa [Nat.zero_add] at this
    have zo_9 : w3.cell? ⟨w2.heap.size, 9, none⟩ = some (.int .i64 m.d.re) := by have := Ho.out 9 _ rfl; rwa [Nat.zero_add] at this
    have zo_10 : w3.cell? ⟨w2.heap.size, 10, none⟩ = some (.int .i64 m.d.im) := by have := Ho.out 10 _ rfl; rwa [Nat.zero_add] at this
    have zo_11 : w3.cell? ⟨w2.heap.size, 11, none⟩ = some (.int .i64 m.d.den) := by have := Ho.out 11 _ rfl; rwa [Nat.zero_add] at this
    go_wp2_with (first | ((with_reducible refine wpList_load_mid ?kl181 29 ?kl18x ?kl182 (w2.heap.size) 0 ?kl183 [.int .i64 m.a.re, .int .i64 m.a.im, .int .i64 m.a.den, .int .i64 m.b.re, .int .i64 m.b.im, .int .i64 m.b.den, .int .i64 m.c.re, .int .i64 m.c.im, .int .i64 m.c.den, .int .i64 m.d.re, .int .i64 m.d.im, .int .i64 m.d.den] ?kl18d ?kl184 ?kl185 ?kl186 ?kl187 ?kl188); (case kl182 => rfl); (case kl181 => rfl); (case kl183 => rfl); (case kl184 => (exact (World.rangeAt_alloc Ho.out _))); (case kl185 => exact Try.underlying29); (case kl186 => rfl); (case kl187 => kernel_rfl)) | ((with_reducible refine wpList_load_mid ?kl191 29 ?kl19x ?kl192 (w2.heap.size) 0 ?kl193 [.int .i64 m.a.re, .int .i64 m.a.im, .int .i64 m.a.den, .int .i64 m.b.re, .int .i64 m.b.im, .int .i64 m.b.den, .int .i64 m.c.re, .int .i64 m.c.im, .int .i64 m.c.den, .int .i64 m.d.re, .int .i64 m.d.im, .int .i64 m.d.den] ?kl19d ?kl194 ?kl195 ?kl196 ?kl197 ?kl198); (case kl192 => rfl); (case kl191 => rfl); (case kl193 => rfl); (case kl194 => (exact (World.rangeAt_alloc Ho.out _))); (case kl195 => exact Try.underlying29); (case kl196 => rfl); (case kl197 => kernel_rfl)))
    refine (imtm_m m m _).mono ?_
    rintro e w4 ho
    rw [HX.out] at ho
    obtain ⟨rfl, hb⟩ : e = .returned (.tuple #[.agg #[.int .i64 X.a.re, .int .i64 X.a.im, .int .i64 X.a.den, .int .i64 X.b.re, .int .i64 X.b.im, .int .i64 X.b.den, .int .i64 X.c.re, .int .i64 X.c.im, .int .i64 X.c.den, .int .i64 X.d.re, .int .i64 X.d.im, .int .i64 X.d.den], .bool r]) ∧ Below _ _ _ := ho.fn
    clear ho
    have HB := Lib.hid (show Below w.heap.size w w4 from HB.out.trans ((show Below _ _ _ from ((Below.refl _ _).alloc (by omega) _)).trans (hb.mono (by first | omega | (simp <;> omega)))))
    have Ho : Hid (w4.rangeAt (w2.heap.size) 0 [.int .i64 m.a.re, .int .i64 m.a.im, .int .i64 m.a.den, .int .i64 m.b.re, .int .i64 m.b.im, .int .i64 m.b.den, .int .i64 m.c.re, .int .i64 m.c.im, .int .i64 m.c.den, .int .i64 m.d.re, .int .i64 m.d.im, .int .i64 m.d.den]) := rangeAt_below (World.rangeAt_alloc Ho.out _) hb (by first | omega | (simp; done) | (simp <;> omega))
    have Hq : Hid (w4.rangeAt w3.heap.size 0 [.int .i64 m.a.re, .int .i64 m.a.im, .int .i64 m.a.den, .int .i64 m.b.re, .int .i64 m.b.im, .int .i64 m.b.den, .int .i64 m.c.re, .int .i64 m.c.im, .int .i64 m.c.den, .int .i64 m.d.re, .int .i64 m.d.im, .int .i64 m.d.den]) := rangeAt_below (rangeAt_new _ _ _) hb (by first | omega | (simp; done) | (simp <;> omega))
    have hz4 := hb.size
    (try simp at hz4)
    clear hb
    have nA0 : w2.heap.size < w4.heap.size := by omega
    have nB0 : ¬ w2.heap.size = w4.heap.size := by omega
    have nC0 : ¬ w4.heap.size = w2.heap.size := by omega
    have nA1 : w3.heap.size < w4.heap.size := by omega
    have nB1 : ¬ w3.heap.size = w4.heap.size := by omega
    have nC1 : ¬ w4.heap.size = w3.heap.size := by omega
    go_wp2_with (first | ((with_reducible refine wpList_load_mid ?kl201 29 ?kl20x ?kl202 (w2.heap.size) 0 ?kl203 [.int .i64 m.a.re, .int .i64 m.a.im, .int .i64 m.a.den, .int .i64 m.b.re, .int .i64 m.b.im, .int .i64 m.b.den, .int .i64 m.c.re, .int .i64 m.c.im, .int .i64 m.c.den, .int .i64 m.d.re, .int .i64 m.d.im, .int .i64 m.d.den] ?kl20d ?kl204 ?kl205 ?kl206 ?kl207 ?kl208); (case kl202 => rfl); (case kl201 => rfl); (case kl203 => rfl); (case kl204 => (exact (World.rangeAt_alloc Ho.out _))); (case kl205 => exact Try.underlying29); (case kl206 => rfl); (case kl207 => kernel_rfl)))
    refine (imatadj_any m _).mono ?_
    rintro e w5 ho
    rw [HA.out] at ho
    obtain ⟨rfl, hb⟩ : e = .returned (.tuple #[.agg #[.int .i64 m.a.re, .int .i64 m.a.im, .int .i64 m.a.den, .int .i64 m.b.re, .int .i64 m.b.im, .int .i64 m.b.den, .int .i64 m.c.re, .int .i64 m.c.im, .int .i64 m.c.den, .int .i64 m.d.re, .int .i64 m.d.im, .int .i64 m.d.den], .bool true]) ∧ Below _ _ _ := ho.fn
    clear ho
    have HB := Lib.hid (show Below w.heap.size w w5 from HB.out.trans ((show Below _ _ _ from ((Below.refl _ _).alloc (by omega) _)).trans (hb.mono (by first | omega | (simp <;> omega)))))
    have Ho : Hid (w5.rangeAt (w2.heap.size) 0 [.int .i64 m.a.re, .int .i64 m.a.im, .int .i64 m.a.den, .int .i64 m.b.re, .int .i64 m.b.im, .int .i64 m.b.den, .int .i64 m.c.re, .int .i64 m.c.im, .int .i64 m.c.den, .int .i64 m.d.re, .int .i64 m.d.im, .int .i64 m.d.den]) := rangeAt_below (World.rangeAt_alloc Ho.out _) hb (by first | omega | (simp; done) | (simp <;> omega))
    have Hq : Hid (w5.rangeAt (w3.heap.size) 0 [.int .i64 m.a.re, .int .i64 m.a.im, .int .i64 m.a.den, .int .i64 m.b.re, .int .i64 m.b.im, .int .i64 m.b.den, .int .i64 m.c.re, .int .i64 m.c.im, .int .i64 m.c.den, .int .i64 m.d.re, .int .i64 m.d.im, .int .i64 m.d.den]) := rangeAt_below (World.rangeAt_alloc Hq.out _) hb (by first | omega | (simp; done) | (simp <;> omega))
    have Hbx : Hid (w5.rangeAt w4.heap.size 0 [.int .i64 X.a.re, .int .i64 X.a.im, .int .i64 X.a.den, .int .i64 X.b.re, .int .i64 X.b.im, .int .i64 X.b.den, .int .i64 X.c.re, .int .i64 X.c.im, .int .i64 X.c.den, .int .i64 X.d.re, .int .i64 X.d.im, .int .i64 X.d.den]) := rangeAt_below (rangeAt_new _ _ _) hb (by first | omega | (simp; done) | (simp <;> omega))
    have hz5 := hb.size
    (try simp at hz5)
    clear hb
    have nA0 : w2.heap.size < w5.heap.size := by omega
    have nB0 : ¬ w2.heap.size = w5.heap.size := by omega
    have nC0 : ¬ w5.heap.size = w2.heap.size := by omega
    have nA1 : w3.heap.size < w5.heap.size := by omega
    have nB1 : ¬ w3.heap.size = w5.heap.size := by omega
    have nC1 : ¬ w5.heap.size = w3.heap.size := by omega
    have nA2 : w4.heap.size < w5.heap.size := by omega
    have nB2 : ¬ w4.heap.size = w5.heap.size := by omega
    have nC2 : ¬ w5.heap.size = w4.heap.size := by omega
    go_wp2_with (first | ((with_reducible refine wpList_load_mid ?kl211 29 ?kl21x ?kl212 (w2.heap.size) 0 ?kl213 [.int .i64 m.a.re, .int .i64 m.a.im, .int .i64 m.a.den, .int .i64 m.b.re, .int .i64 m.b.im, .int .i64 m.b.den, .int .i64 m.c.re, .int .i64 m.c.im, .int .i64 m.c.den, .int .i64 m.d.re, .int .i64 m.d.im, .int .i64 m.d.den] ?kl21d ?kl214 ?kl215 ?kl216 ?kl217 ?kl218); (case kl212 => rfl); (case kl211 => rfl); (case kl213 => rfl); (case kl214 => (exact (World.rangeAt_alloc Ho.out _))); (case kl215 => exact Try.underlying29); (case kl216 => rfl); (case kl217 => kernel_rfl)))
    refine (imatdet_any m _).mono ?_
    rintro e w6 ho
    rw [HD.out] at ho
    obtain ⟨rfl, hb⟩ : e = .returned (.tuple #[.agg #[.int .i64 d.re, .int .i64 d.im, .int .i64 d.den], .bool t]) ∧ Below _ _ _ := ho.fn
    clear ho
    have HB := Lib.hid (show Below w.heap.size w w6 from HB.out.trans ((show Below _ _ _ from ((Below.refl _ _).alloc (by omega) _)).trans (hb.mono (by first | omega | (simp <;> omega)))))
    have Ho : Hid (w6.rangeAt (w2.heap.size) 0 [.int .i64 m.a.re, .int .i64 m.a.im, .int .i64 m.a.den, .int .i64 m.b.re, .int .i64 m.b.im, .int .i64 m.b.den, .int .i64 m.c.re, .int .i64 m.c.im, .int .i64 m.c.den, .int .i64 m.d.re, .int .i64 m.d.im, .int .i64 m.d.den]) := rangeAt_below (World.rangeAt_alloc Ho.out _) hb (by first | omega | (simp; done) | (simp <;> omega))
    have Hq : Hid (w6.rangeAt (w3.heap.size) 0 [.int .i64 m.a.re, .int .i64 m.a.im, .int .i64 m.a.den, .int .i64 m.b.re, .int .i64 m.b.im, .int .i64 m.b.den, .int .i64 m.c.re, .int .i64 m.c.im, .int .i64 m.c.den, .int .i64 m.d.re, .int .i64 m.d.im, .int .i64 m.d.den]) := rangeAt_below (World.rangeAt_alloc Hq.out _) hb (by first | omega | (simp; done) | (simp <;> omega))
    have Hbx : Hid (w6.rangeAt (w4.heap.size) 0 [.int .i64 X.a.re, .int .i64 X.a.im, .int .i64 X.a.den, .int .i64 X.b.re, .int .i64 X.b.im, .int .i64 X.b.den, .int .i64 X.c.re, .int .i64 X.c.im, .int .i64 X.c.den, .int .i64 X.d.re, .int .i64 X.d.im, .int .i64 X.d.den]) := rangeAt_below (World.rangeAt_alloc Hbx.out _) hb (by first | omega | (simp; done) | (simp <;> omega))
    have Hby : Hid (w6.rangeAt w5.heap.size 0 [.int .i64 m.a.re, .int .i64 m.a.im, .int .i64 m.a.den, .int .i64 m.b.re, .int .i64 m.b.im, .int .i64 m.b.den, .int .i64 m.c.re, .int .i64 m.c.im, .int .i64 m.c.den, .int .i64 m.d.re, .int .i64 m.d.im, .int .i64 m.d.den]) := rangeAt_below (rangeAt_new _ _ _) hb (by first | omega | (simp; done) | (simp <;> omega))
    have hz6 := hb.size
    (try simp at hz6)
    clear hb
    have nA0 : w2.heap.size < w6.heap.size := by omega
    have nB0 : ¬ w2.heap.size = w6.heap.size := by omega
    have nC0 : ¬ w6.heap.size = w2.heap.size := by omega
    have nA1 : w3.heap.size < w6.heap.size := by omega
    have nB1 : ¬ w3.heap.size = w6.heap.size := by omega
    have nC1 : ¬ w6.heap.size = w3.heap.size := by omega
    have nA2 : w4.heap.size < w6.heap.size := by omega
    have nB2 : ¬ w4.heap.size = w6.heap.size := by omega
    have nC2 : ¬ w6.heap.size = w4.heap.size := by omega
    have nA3 : w5.heap.size < w6.heap.size := by omega
    have nB3 : ¬ w5.heap.size = w6.heap.size := by omega
    have nC3 : ¬ w6.heap.size = w5.heap.size := by omega
    have zo_0 : w6.cell? ⟨w2.heap.size, 0, none⟩ = some (.int .i64 m.a.re) := by have := Ho.out 0 _ rfl; rwa [Nat.zero_add] at this
    have zo_1 : w6.cell? ⟨w2.heap.size, 1, none⟩ = some (.int .i64 m.a.im) := by have := Ho.out 1 _ rfl; rwa [Nat.zero_add] at this
    have zo_2 : w6.cell? ⟨w2.heap.size, 2, none⟩ = some (.int .i64 m.a.den) := by have := Ho.out 2 _ rfl; rwa [Nat.zero_add] at this
    have zo_3 : w6.cell? ⟨w2.heap.size, 3, none⟩ = some (.int .i64 m.b.re) := by have := Ho.out 3 _ rfl; rwa [Nat.zero_add] at this
    have zo_4 : w6.cell? ⟨w2.heap.size, 4, none⟩ = some (.int .i64 m.b.im) := by have := Ho.out 4 _ rfl; rwa [Nat.zero_add] at this
    have zo_5 : w6.cell? ⟨w2.heap.size, 5, none⟩ = some (.int .i64 m.b.den) := by have := Ho.out 5 _ rfl; rwa [Nat.zero_add] at this
    have zo_6 : w6.cell? ⟨w2.heap.size, 6, none⟩ = some (.int .i64 m.c.re) := by have := Ho.out 6 _ rfl; rwa [Nat.zero_add] at this
    have zo_7 : w6.cell? ⟨w2.heap.size, 7, none⟩ = some (.int .i64 m.c.im) := by have := Ho.out 7 _ rfl; rwa [Nat.zero_add] at this
    have zo_8 : w6.cell? ⟨w2.heap.size, 8, none⟩ = some (.int .i64 m.c.den) := by have := Ho.out 8 _ rfl; rwa [Nat.zero_add] at this
    have zo_9 : w6.cell? ⟨w2.heap.size, 9, none⟩ = some (.int .i64 m.d.re) := by have := Ho.out 9 _ rfl; rwa [Nat.zero_add] at this
    have zo_10 : w6.cell? ⟨w2.heap.size, 10, none⟩ = some (.int .i64 m.d.im) := by have := Ho.out 10 _ rfl; rwa [Nat.zero_add] at this
    have zo_11 : w6.cell? ⟨w2.heap.size, 11, none⟩ = some (.int .i64 m.d.den) := by have := Ho.out 11 _ rfl; rwa [Nat.zero_add] at this
    have zby_0 : w6.cell? ⟨w5.heap.size, 0, none⟩ = some (.int .i64 m.a.re) := by have := Hby.out 0 _ rfl; rwa [Nat.zero_add] at this
    have zby_1 : w6.cell? ⟨w5.heap.size, 1, none⟩ = some (.int .i64 m.a.im) := by have := Hby.out 1 _ rfl; rwa [Nat.zero_add] at this
    have zby_2 : w6.cell? ⟨w5.heap.size, 2, none⟩ = some (.int .i64 m.a.den) := by have := Hby.out 2 _ rfl; rwa [Nat.zero_add] at this
    have zby_3 : w6.cell? ⟨w5.heap.size, 3, none⟩ = some (.int .i64 m.b.re) := by have := Hby.out 3 _ rfl; rwa [Nat.zero_add] at this
    have zby_4 : w6.cell? ⟨w5.heap.size, 4, none⟩ = some (.int .i64 m.b.im) := by have := Hby.out 4 _ rfl; rwa [Nat.zero_add] at this
    have zby_5 : w6.cell? ⟨w5.heap.size, 5, none⟩ = some (.int .i64 m.b.den) := by have := Hby.out 5 _ rfl; rwa [Nat.zero_add] at this
    have zby_6 : w6.cell? ⟨w5.heap.size, 6, none⟩ = some (.int .i64 m.c.re) := by have := Hby.out 6 _ rfl; rwa [Nat.zero_add] at this
    have zby_7 : w6.cell? ⟨w5.heap.size, 7, none⟩ = some (.int .i64 m.c.im) := by have := Hby.out 7 _ rfl; rwa [Nat.zero_add] at this
    have zby_8 : w6.cell? ⟨w5.heap.size, 8, none⟩ = some (.int .i64 m.c.den) := by have := Hby.out 8 _ rfl; rwa [Nat.zero_add] at this
    have zby_9 : w6.cell? ⟨w5.heap.size, 9, none⟩ = some (.int .i64 m.d.re) := by have := Hby.out 9 _ rfl; rwa [Nat.zero_add] at this
    have zby_10 : w6.cell? ⟨w5.heap.size, 10, none⟩ = some (.int .i64 m.d.im) := by have := Hby.out 10 _ rfl; rwa [Nat.zero_add] at this
    have zby_11 : w6.cell? ⟨w5.heap.size, 11, none⟩ = some (.int .i64 m.d.den) := by have := Hby.out 11 _ rfl; rwa [Nat.zero_add] at this
    have zbx_0 : w6.cell? ⟨w4.heap.size, 0, none⟩ = some (.int .i64 X.a.re) := by have := Hbx.out 0 _ rfl; rwa [Nat.zero_add] at this
    have zbx_1 : w6.cell? ⟨w4.heap.size, 1, none⟩ = some (.int .i64 X.a.im) := by have := Hbx.out 1 _ rfl; rwa [Nat.zero_add] at this
    have zbx_2 : w6.cell? ⟨w4.heap.size, 2, none⟩ = some (.int .i64 X.a.den) := by have := Hbx.out 2 _ rfl; rwa [Nat.zero_add] at this
    have zbx_3 : w6.cell? ⟨w4.heap.size, 3, none⟩ = some (.int .i64 X.b.re) := by have := Hbx.out 3 _ rfl; rwa [Nat.zero_add] at this
    have zbx_4 : w6.cell? ⟨w4.heap.size, 4, none⟩ = some (.int .i64 X.b.im) := by have := Hbx.out 4 _ rfl; rwa [Nat.zero_add] at this
    have zbx_5 : w6.cell? ⟨w4.heap.size, 5, none⟩ = some (.int .i64 X.b.den) := by have := Hbx.out 5 _ rfl; rwa [Nat.zero_add] at this
    have zbx_6 : w6.cell? ⟨w4.heap.size, 6, none⟩ = some (.int .i64 X.c.re) := by have := Hbx.out 6 _ rfl; rwa [Nat.zero_add] at this
    have zbx_7 : w6.cell? ⟨w4.heap.size, 7, none⟩ = some (.int .i64 X.c.im) := by have := Hbx.out 7 _ rfl; rwa [Nat.zero_add] at this
    have zbx_8 : w6.cell? ⟨w4.heap.size, 8, none⟩ = some (.int .i64 X.c.den) := by have := Hbx.out 8 _ rfl; rwa [Nat.zero_add] at this
    have zbx_9 : w6.cell? ⟨w4.heap.size, 9, none⟩ = some (.int .i64 X.d.re) := by have := Hbx.out 9 _ rfl; rwa [Nat.zero_add] at this
    have zbx_10 : w6.cell? ⟨w4.heap.size, 10, none⟩ = some (.int .i64 X.d.im) := by have := Hbx.out 10 _ rfl; rwa [Nat.zero_add] at this
    have zbx_11 : w6.cell? ⟨w4.heap.size, 11, none⟩ = some (.int .i64 X.d.den) := by have := Hbx.out 11 _ rfl; rwa [Nat.zero_add] at this
    cases r
    · skip
      cases t
      · skip
        go_wp2_with fail
        go_ret
        exact ⟨rfl, (by (repeat' first | (with_reducible exact HB.out) | with_reducible refine setCells_below _ _ _ ?_ (by first | omega | (simp <;> omega)) | with_reducible refine Below.setCell ?_ (by show _ ≤ _; first | omega | (simp <;> omega) | simp) _ | with_reducible refine Below.alloc ?_ (by first | omega | (simp <;> omega)) _ | with_reducible apply Below.drew))⟩
      obtain rfl := HDZ.out rfl
      go_wp2_with fail
      go_ret
      exact ⟨rfl, (by (repeat' first | (with_reducible exact HB.out) | with_reducible refine setCells_below _ _ _ ?_ (by first | omega | (simp <;> omega)) | with_reducible refine Below.setCell ?_ (by show _ ≤ _; first | omega | (simp <;> omega) | simp) _ | with_reducible refine Below.alloc ?_ (by first | omega | (simp <;> omega)) _ | with_reducible apply Below.drew))⟩
    · skip
      have e := HXM.out rfl
      subst e
      cases t
      · skip
        go_wp2_with fail
        go_ret
        exact ⟨rfl, (by (repeat' first | (with_reducible exact HB.out) | with_reducible refine setCells_below _ _ _ ?_ (by first | omega | (simp <;> omega)) | with_reducible refine Below.setCell ?_ (by show _ ≤ _; first | omega | (simp <;> omega) | simp) _ | with_reducible refine Below.alloc ?_ (by first | omega | (simp <;> omega)) _ | with_reducible apply Below.drew))⟩
      obtain rfl := HDZ.out rfl
      go_wp2_with fail
      go_ret
      exact ⟨rfl, (by (repeat' first | (with_reducible exact HB.out) | with_reducible refine setCells_below _ _ _ ?_ (by first | omega | (simp <;> omega)) | with_reducible refine Below.setCell ?_ (by show _ ≤ _; first | omega | (simp <;> omega) | simp) _ | with_reducible refine Below.alloc ?_ (by first | omega | (simp <;> omega)) _ | with_reducible apply Below.drew))⟩

set_option maxRecDepth 100000 in
theorem lifted_FnFilter (os : Os) (started : os.Started) (H : Type) (enc : TypeId × Value → H) :
    ReturnsInHanded {} Try.checked os 3 .any (Rows.fnFilterSpec.pre6 enc Try.prog Try.f3 Rows.fnFilterRow.domain false) (Rows.fnFilterSpec.post enc Try.prog Try.f3 false true false false) := by
  refine returnsInHanded_of_change (C := Try.checked) Try.own started (by kernel_rfl) Try.func3
    (ChangeSpec.witness6 (enc := enc) (C := Try.checked) false ⟨#[], #[.slice none 0 0], []⟩ 8 (by kernel_rfl) (by kernel_rfl) (by kernel_rfl) (by kernel_rfl)) ?_
  intro W base args ds gs before hval0 hW hcnd _
  have hval : ∀ (j : Nat) t v, Try.f3.params[j]? = some t → args[j]? = some v → Value.okWide Try.prog W .any base t v := hval0
  have hW' := hW
  obtain ⟨p, q, hA0, hV, rfl, hfz, hnd⟩ := hW
  have hA : DataW.TrodAll enc Try.prog W 0 (fun _ => true) true Try.f3.params.toList args.toList ds p := hA0
  rw [Try.params3] at hA hval
  obtain ⟨v0, d0, rfl, rfl, h0⟩ := trodAll_one hA
  obtain ⟨rfl, rfl⟩ := trodVars_none hV
  have h0k := h0
  obtain ⟨fuel, hf⟩ := h0
  clear hA0 hval0
  simp only [List.append_nil] at hW'
  have hlt : ∀ x ∈ p, x.block < W.heap.size := fun x hx => by simpa using hW'.lt x hx
  obtain ⟨a0, len, cap, rfl⟩ := okWide_slice Try.underlying22 (hval 0 22 v0 rfl rfl)
  obtain ⟨hcap, HC⟩ := open_code hf hlt
  refine (walk_FnFilter a0 len cap W hcap HC).mono fun e W' ⟨he, hb⟩ => ?_
  subst he
  refine ⟨_, rfl, _, _, _, [], p, [], hW', trodAll_mk1 (shut_bool Try.underlying4 _), trodAll_mk1 (Below.trod Try.laidOut (by kernel_rfl) (of_decide_eq_true (by kernel_rfl)) h0k hb (fun x hx => hlt x (by simp [hx]))), rfl, hb.frame _, fun h => by cases h⟩

/-- THE STATEMENT. -/
theorem holds_FnFilter : Rows.FnFilterSaid :=
  OpenClaim.holds_of_wide 3 Try.f3 rfl rfl rfl rfl rfl rfl rfl ⟨rfl, rfl, rfl, rfl, rfl⟩ rfl rfl rfl rfl rfl (by kernel_rfl) Try.func3 (by kernel_rfl)
    (of_decide_eq_true (by kernel_rfl)) (by unfold Func.isWrapper; first | (rw [if_pos (by decide +kernel)]; kernel_rfl) | (rw [if_neg (by decide +kernel)]; exact ⟨rfl, rfl⟩))
    (fun os started H enc _ => lifted_FnFilter os started H enc)
end Go.Proofs.Ytcpdapfcbnhgaaa
