/- Adjoints lead back. -/
import Derived.Test.YtcpdapfcbnhgaaaDW3
import Derived.Test.YtcpdapfcbnhgaaaQT
import Derived.Test.YtcpdapfcbnhgaaaP
import Derived.Test.YtcpdapfcbnhgaaaV
import Derived.Test.YtcpdapfcbnhgaaaEQ2
namespace Go.Proofs.Ytcpdapfcbnhgaaa
open Go.ChangeShapes Go.WideShapes Go.ChangeAt Go.RowKit Pol

set_option maxRecDepth 100000 in
set_option maxHeartbeats 40000000 in
theorem walk_FnAdjoint (a0 : Option Addr) (len cap : Nat) (w : World) (hcap : len ≤ cap) (HC : Code w.heap.size w a0 len) :
    Calls Try.prog 4 #[.slice a0 len cap] w fun e w' => e = .returned (.bool true) ∧ Below w.heap.size w w' := by
  by_cases hbig : 1048576 < len
  · have h1 : (1048576 : Int) < (len : Int) := by omega
    go_enter Try.func4, Try.ntmps4
    go_wp2
    go_ret
    exact ⟨rfl, Below.refl _ _⟩
  have h1 : ¬ (1048576 : Int) < (len : Int) := by omega
  go_enter Try.func4, Try.ntmps4
  go_wp2_with fail
  refine (DrawMatAdjoint_any a0 len cap _ hcap HC).mono ?_
  rintro e w1 ⟨a, rfl, hb⟩
  rw [cl4 a]
  have HB := Lib.hid (show Below w.heap.size w w1 from hb)
  have hz1 := hb.size
  (try simp at hz1)
  clear hb
  cases hv : all4 vld a
  · skip
    have HG : Hid (gAdj a = (m4z, false)) := gAdj_n hv
    go_wp2_with (first | ((with_reducible refine wpList_load_mid ?kl11 29 ?kl1x ?kl12 (w1.heap.size) 0 ?kl13 [.int .i64 a.a.re, .int .i64 a.a.im, .int .i64 a.a.den, .int .i64 a.b.re, .int .i64 a.b.im, .int .i64 a.b.den, .int .i64 a.c.re, .int .i64 a.c.im, .int .i64 a.c.den, .int .i64 a.d.re, .int .i64 a.d.im, .int .i64 a.d.den] ?kl1d ?kl14 ?kl15 ?kl16 ?kl17 ?kl18); (case kl12 => rfl); (case kl11 => rfl); (case kl13 => rfl); (case kl14 => (exact (rangeAt_new _ _ _))); (case kl15 => exact Try.underlying29); (case kl16 => rfl); (case kl17 => kernel_rfl)))
    refine (imatadj_any a _).mono ?_
    rintro e w2 ho
    rw [HG.out] at ho
    obtain ⟨rfl, hb⟩ : e = .returned (.tuple #[.agg #[.int .i64 m4z.a.re, .int .i64 m4z.a.im, .int .i64 m4z.a.den, .int .i64 m4z.b.re, .int .i64 m4z.b.im, .int .i64 m4z.b.den, .int .i64 m4z.c.re, .int .i64 m4z.c.im, .int .i64 m4z.c.den, .int .i64 m4z.d.re, .int .i64 m4z.d.im, .int .i64 m4z.d.den], .bool false]) ∧ Below _ _ _ := ho.fn
    clear ho
    have HB := Lib.hid (show Below w.heap.size w w2 from HB.out.trans ((show Below _ _ _ from ((Below.refl _ _).alloc (by omega) _)).trans (hb.mono (by first | omega | (simp <;> omega)))))
    have Ha : Hid (w2.rangeAt w1.heap.size 0 [.int .i64 a.a.re, .int .i64 a.a.im, .int .i64 a.a.den, .int .i64 a.b.re, .int .i64 a.b.im, .int .i64 a.b.den, .int .i64 a.c.re, .int .i64 a.c.im, .int .i64 a.c.den, .int .i64 a.d.re, .int .i64 a.d.im, .int .i64 a.d.den]) := rangeAt_below (rangeAt_new _ _ _) hb (by first | omega | (simp; done) | (simp <;> omega))
    have hz2 := hb.size
    (try simp at hz2)
    clear hb
    have nA0 : w1.heap.size < w2.heap.size := by omega
    have nB0 : ¬ w1.heap.size = w2.heap.size := by omega
    have nC0 : ¬ w2.heap.size = w1.heap.size := by omega
    go_wp2_with (first | ((with_reducible refine wpList_load_mid ?kl21 29 ?kl2x ?kl22 (w1.heap.size) 0 ?kl23 [.int .i64 a.a.re, .int .i64 a.a.im, .int .i64 a.a.den, .int .i64 a.b.re, .int .i64 a.b.im, .int .i64 a.b.den, .int .i64 a.c.re, .int .i64 a.c.im, .int .i64 a.c.den, .int .i64 a.d.re, .int .i64 a.d.im, .int .i64 a.d.den] ?kl2d ?kl24 ?kl25 ?kl26 ?kl27 ?kl28); (case kl22 => rfl); (case kl21 => rfl); (case kl23 => rfl); (case kl24 => (exact (World.rangeAt_alloc Ha.out _))); (case kl25 => exact Try.underlying29); (case kl26 => rfl); (case kl27 => kernel_rfl)))
    refine (smatadj_any a _).mono ?_
    rintro e w3 ho
    rw [HG.out] at ho
    obtain ⟨rfl, hb⟩ : e = .returned (.tuple #[.agg #[.int .i64 m4z.a.re, .int .i64 m4z.a.im, .int .i64 m4z.a.den, .int .i64 m4z.b.re, .int .i64 m4z.b.im, .int .i64 m4z.b.den, .int .i64 m4z.c.re, .int .i64 m4z.c.im, .int .i64 m4z.c.den, .int .i64 m4z.d.re, .int .i64 m4z.d.im, .int .i64 m4z.d.den], .bool false]) ∧ Below _ _ _ := ho.fn
    clear ho
    have HB := Lib.hid (show Below w.heap.size w w3 from HB.out.trans ((show Below _ _ _ from ((Below.refl _ _).alloc (by omega) _)).trans (hb.mono (by first | omega | (simp <;> omega)))))
    have Ha : Hid (w3.rangeAt (w1.heap.size) 0 [.int .i64 a.a.re, .int .i64 a.a.im, .int .i64 a.a.den, .int .i64 a.b.re, .int .i64 a.b.im, .int .i64 a.b.den, .int .i64 a.c.re, .int .i64 a.c.im, .int .i64 a.c.den, .int .i64 a.d.re, .int .i64 a.d.im, .int .i64 a.d.den]) := rangeAt_below (World.rangeAt_alloc Ha.out _) hb (by first | omega | (simp; done) | (simp <;> omega))
    have Ho : Hid (w3.rangeAt w2.heap.size 0 [.int .i64 m4z.a.re, .int .i64 m4z.a.im, .int .i64 m4z.a.den, .int .i64 m4z.b.re, .int .i64 m4z.b.im, .int .i64 m4z.b.den, .int .i64 m4z.c.re, .int .i64 m4z.c.im, .int .i64 m4z.c.den, .int .i64 m4z.d.re, .int .i64 m4z.d.im, .int .i64 m4z.d.den]) := rangeAt_below (rangeAt_new _ _ _) hb (by first | omega | (simp; done) | (simp <;> omega))
    have hz3 := hb.size
    (try simp at hz3)
    clear hb
    have nA0 : w1.heap.size < w3.heap.size := by omega
    have nB0 : ¬ w1.heap.size = w3.heap.size := by omega
    have nC0 : ¬ w3.heap.size = w1.heap.size := by omega
    have nA1 : w2.heap.size < w3.heap.size := by omega
    have nB1 : ¬ w2.heap.size = w3.heap.size := by omega
    have nC1 : ¬ w3.heap.size = w2.heap.size := by omega
    have hEq1 : ∀ w, (Op.equalIn 10000 29 (.agg #[.int .i64 m4z.a.re, .int .i64 m4z.a.im, .int .i64 m4z.a.den, .int .i64 m4z.b.re, .int .i64 m4z.b.im, .int .i64 m4z.b.den, .int .i64 m4z.c.re, .int .i64 m4z.c.im, .int .i64 m4z.c.den, .int .i64 m4z.d.re, .int .i64 m4z.d.im, .int .i64 m4z.d.den]) (.agg #[.int .i64 m4z.a.re, .int .i64 m4z.a.im, .int .i64 m4z.a.den, .int .i64 m4z.b.re, .int .i64 m4z.b.im, .int .i64 m4z.b.den, .int .i64 m4z.c.re, .int .i64 m4z.c.im, .int .i64 m4z.c.den, .int .i64 m4z.d.re, .int .i64 m4z.d.im, .int .i64 m4z.d.den])).run Try.prog w = .ok true w := eqMat_run m4z
    have zo_0 : w3.cell? ⟨w2.heap.size, 0, none⟩ = some (.int .i64 m4z.a.re) := by have := Ho.out 0 _ rfl; rwa [Nat.zero_add] at this
    have zo_1 : w3.cell? ⟨w2.heap.size, 1, none⟩ = some (.int .i64 m4z.a.im) := by have := Ho.out 1 _ rfl; rwa [Nat.zero_add] at this
    have zo_2 : w3.cell? ⟨w2.heap.size, 2, none⟩ = some (.int .i64 m4z.a.den) := by have := Ho.out 2 _ rfl; rwa [Nat.zero_add] at this
    have zo_3 : w3.cell? ⟨w2.heap.size, 3, none⟩ = some (.int .i64 m4z.b.re) := by have := Ho.out 3 _ rfl; rwa [Nat.zero_add] at this
    have zo_4 : w3.cell? ⟨w2.heap.size, 4, none⟩ = some (.int .i64 m4z.b.im) := by have := Ho.out 4 _ rfl; rwa [Nat.zero_add] at this
    have zo_5 : w3.cell? ⟨w2.heap.size, 5, none⟩ = some (.int .i64 m4z.b.den) := by have := Ho.out 5 _ rfl; rwa [Nat.zero_add] at this
    have zo_6 : w3.cell? ⟨w2.heap.size, 6, none⟩ = some (.int .i64 m4z.c.re) := by have := Ho.out 6 _ rfl; rwa [Nat.zero_add] at this
    have zo_7 : w3.cell? ⟨w2.heap.size, 7, none⟩ = some (.int .i64 m4z.c.im) := by have := Ho.out 7 _ rfl; rwa [Nat.zero_add] at this
    have zo_8 : w3.cell? ⟨w2.heap.size, 8, none⟩ = some (.int .i64 m4z.c.den) := by have := Ho.out 8 _ rfl; rwa [Nat.zero_add] at this
    have zo_9 : w3.cell? ⟨w2.heap.size, 9, none⟩ = some (.int .i64 m4z.d.re) := by have := Ho.out 9 _ rfl; rwa [Nat.zero_add] at this
    have zo_10 : w3.cell? ⟨w2.heap.size, 10, none⟩ = some (.int .i64 m4z.d.im) := by have := Ho.out 10 _ rfl; rwa [Nat.zero_add] at this
    have zo_11 : w3.cell? ⟨w2.heap.size, 11, none⟩ = some (.int .i64 m4z.d.den) := by have := Ho.out 11 _ rfl; rwa [Nat.zero_add] at this
    go_wp2_with fail
    go_ret
    exact ⟨rfl, (by (repeat' first | (with_reducible exact HB.out) | with_reducible refine setCells_below _ _ _ ?_ (by first | omega | (simp <;> omega)) | with_reducible refine Below.setCell ?_ (by show _ ≤ _; first | omega | (simp <;> omega) | simp) _ | with_reducible refine Below.alloc ?_ (by first | omega | (simp <;> omega)) _ | with_reducible apply Below.drew))⟩
  · skip
    have HG : Hid (gAdj a = (mC a, true)) := gAdj_y hv
    have HB2 : Hid (gAdj (mC a) = (a, true)) := by show _ = _; rw [gAdj_y (mC_v hv), mC_2]
    have hlaw := fun k l => @law_cdet a k l
    obtain ⟨c, hc⟩ : ∃ c, c = mC a := ⟨_, rfl⟩
    rw [← hc] at HG HB2 hlaw
    clear hc
    obtain ⟨k, t, hk⟩ : ∃ k t, gDet a = (k, t) := ⟨_, _, rfl⟩
    obtain ⟨l, y, hl⟩ : ∃ l y, gDet c = (l, y) := ⟨_, _, rfl⟩
    obtain ⟨n, z, hn⟩ : ∃ n z, fMirror k = (n, z) := ⟨_, _, rfl⟩
    have hm : t = true → y = true → z = true ∧ l = n := fun h1 h2 => by
      have := hlaw k l (by rw [hk, h1]) (by rw [hl, h2])
      rw [hn] at this
      exact ⟨(Prod.mk.inj this).2, (Prod.mk.inj this).1.symm⟩
    have HK := Lib.hid hk
    have HL := Lib.hid hl
    have HN := Lib.hid hn
    have HM := Lib.hid hm
    clear hk hl hn hm hlaw
    go_wp2_with (first | ((with_reducible refine wpList_load_mid ?kl31 29 ?kl3x ?kl32 (w1.heap.size) 0 ?kl33 [.int .i64 a.a.re, .int .i64 a.a.im, .int .i64 a.a.den, .int .i64 a.b.re, .int .i64 a.b.im, .int .i64 a.b.den, .int .i64 a.c.re, .int .i64 a.c.im, .int .i64 a.c.den, .int .i64 a.d.re, .int .i64 a.d.im, .int .i64 a.d.den] ?kl3d ?kl34 ?kl35 ?kl36 ?kl37 ?kl38); (case kl32 => rfl); (case kl31 => rfl); (case kl33 => rfl); (case kl34 => (exact (rangeAt_new _ _ _))); (case kl35 => exact Try.underlying29); (case kl36 => rfl); (case kl37 => kernel_rfl)))
    refine (imatadj_any a _).mono ?_
    rintro e w2 ho
    rw [HG.out] at ho
    obtain ⟨rfl, hb⟩ : e = .returned (.tuple #[.agg #[.int .i64 c.a.re, .int .i64 c.a.im, .int .i64 c.a.den, .int .i64 c.b.re, .int .i64 c.b.im, .int .i64 c.b.den, .int .i64 c.c.re, .int .i64 c.c.im, .int .i64 c.c.den, .int .i64 c.d.re, .int .i64 c.d.im, .int .i64 c.d.den], .bool true]) ∧ Below _ _ _ := ho.fn
    clear ho
    have HB := Lib.hid (show Below w.heap.size w w2 from HB.out.trans ((show Below _ _ _ from ((Below.refl _ _).alloc (by omega) _)).trans (hb.mono (by first | omega | (simp <;> omega)))))
    have Ha : Hid (w2.rangeAt w1.heap.size 0 [.int .i64 a.a.re, .int .i64 a.a.im, .int .i64 a.a.den, .int .i64 a.b.re, .int .i64 a.b.im, .int .i64 a.b.den, .int .i64 a.c.re, .int .i64 a.c.im, .int .i64 a.c.den, .int .i64 a.d.re, .int .i64 a.d.im, .int .i64 a.d.den]) := rangeAt_below (rangeAt_new _ _ _) hb (by first | omega | (simp; done) | (simp <;> omega))
    have hz2 := hb.size
    (try simp at hz2)
    clear hb
    have nA0 : w1.heap.size < w2.heap.size := by omega
    have nB0 : ¬ w1.heap.size = w2.heap.size := by omega
    have nC0 : ¬ w2.heap.size = w1.heap.size := by omega
    go_wp2_with (first | ((with_reducible refine wpList_load_mid ?kl41 29 ?kl4x ?kl42 (w1.heap.size) 0 ?kl43 [.int .i64 a.a.re, .int .i64 a.a.im, .int .i64 a.a.den, .int .i64 a.b.re, .int .i64 a.b.im, .int .i64 a.b.den, .int .i64 a.c.re, .int .i64 a.c.im, .int .i64 a.c.den, .int .i64 a.d.re, .int .i64 a.d.im, .int .i64 a.d.den] ?kl4d ?kl44 ?kl45 ?kl46 ?kl47 ?kl48); (case kl42 => rfl); (case kl41 => rfl); (case kl43 => rfl); (case kl44 => (exact (World.rangeAt_alloc Ha.out _))); (case kl45 => exact Try.underlying29); (case kl46 => rfl); (case kl47 => kernel_rfl)))
    refine (smatadj_any a _).mono ?_
    rintro e w3 ho
    rw [HG.out] at ho
    obtain ⟨rfl, hb⟩ : e = .returned (.tuple #[.agg #[.int .i64 c.a.re, .int .i64 c.a.im, .int .i64 c.a.den, .int .i64 c.b.re, .int .i64 c.b.im, .int .i64 c.b.den, .int .i64 c.c.re, .int .i64 c.c.im, .int .i64 c.c.den, .int .i64 c.d.re, .int .i64 c.d.im, .int .i64 c.d.den], .bool true]) ∧ Below _ _ _ := ho.fn
    clear ho
    have HB := Lib.hid (show Below w.heap.size w w3 from HB.out.trans ((show Below _ _ _ from ((Below.refl _ _).alloc (by omega) _)).trans (hb.mono (by first | omega | (simp <;> omega)))))
    have Ha : Hid (w3.rangeAt (w1.heap.size) 0 [.int .i64 a.a.re, .int .i64 a.a.im, .int .i64 a.a.den, .int .i64 a.b.re, .int .i64 a.b.im, .int .i64 a.b.den, .int .i64 a.c.re, .int .i64 a.c.im, .int .i64 a.c.den, .int .i64 a.d.re, .int .i64 a.d.im, .int .i64 a.d.den]) := rangeAt_below (World.rangeAt_alloc Ha.out _) hb (by first | omega | (simp; done) | (simp <;> omega))
    have Ho : Hid (w3.rangeAt w2.heap.size 0 [.int .i64 c.a.re, .int .i64 c.a.im, .int .i64 c.a.den, .int .i64 c.b.re, .int .i64 c.b.im, .int .i64 c.b.den, .int .i64 c.c.re, .int .i64 c.c.im, .int .i64 c.c.den, .int .i64 c.d.re, .int .i64 c.d.im, .int .i64 c.d.den]) := rangeAt_below (rangeAt_new _ _ _) hb (by first | omega | (simp; done) | (simp <;> omega))
    have hz3 := hb.size
    (try simp at hz3)
    clear hb
    have nA0 : w1.heap.size < w3.heap.size := by omega
    have nB0 : ¬ w1.heap.size = w3.heap.size := by omega
    have nC0 : ¬ w3.heap.size = w1.heap.size := by omega
    have nA1 : w2.heap.size < w3.heap.size := by omega
    have nB1 : ¬ w2.heap.size = w3.heap.size := by omega
    have nC1 : ¬ w3.heap.size = w2.heap.size := by omega
    have hEq1 : ∀ w, (Op.equalIn 10000 29 (.agg #[.int .i64 c.a.re, .int .i64 c.a.im, .int .i64 c.a.den, .int .i64 c.b.re, .int .i64 c.b.im, .int .i64 c.b.den, .int .i64 c.c.re, .int .i64 c.c.im, .int .i64 c.c.den, .int .i64 c.d.re, .int .i64 c.d.im, .int .i64 c.d.den]) (.agg #[.int .i64 c.a.re, .int .i64 c.a.im, .int .i64 c.a.den, .int .i64 c.b.re, .int .i64 c.b.im, .int .i64 c.b.den, .int .i64 c.c.re, .int .i64 c.c.im, .int .i64 c.c.den, .int .i64 c.d.re, .int .i64 c.d.im, .int .i64 c.d.den])).run Try.prog w = .ok true w := eqMat_run c
    have zo_0 : w3.cell? ⟨w2.heap.size, 0, none⟩ = some (.int .i64 c.a.re) := by have := Ho.out 0 _ rfl; rwa [Nat.zero_add] at this
    have zo_1 : w3.cell? ⟨w2.heap.size, 1, none⟩ = some (.int .i64 c.a.im) := by have := Ho.out 1 _ rfl; rwa [Nat.zero_add] at this
    have zo_2 : w3.cell? ⟨w2.heap.size, 2, none⟩ = some (.int .i64 c.a.den) := by have := Ho.out 2 _ rfl; rwa [Nat.zero_add] at this
    have zo_3 : w3.cell? ⟨w2.heap.size, 3, none⟩ = some (.int .i64 c.b.re) := by have := Ho.out 3 _ rfl; rwa [Nat.zero_add] at this
    have zo_4 : w3.cell? ⟨w2.heap.size, 4, none⟩ = some (.int .i64 c.b.im) := by have := Ho.out 4 _ rfl; rwa [Nat.zero_add] at this
    have zo_5 : w3.cell? ⟨w2.heap.size, 5, none⟩ = some (.int .i64 c.b.den) := by have := Ho.out 5 _ rfl; rwa [Nat.zero_add] at this
    have zo_6 : w3.cell? ⟨w2.heap.size, 6, none⟩ = some (.int .i64 c.c.re) := by have := Ho.out 6 _ rfl; rwa [Nat.zero_add] at this
    have zo_7 : w3.cell? ⟨w2.heap.size, 7, none⟩ = some (.int .i64 c.c.im) := by have := Ho.out 7 _ rfl; rwa [Nat.zero_add] at this
    have zo_8 : w3.cell? ⟨w2.heap.size, 8, none⟩ = some (.int .i64 c.c.den) := by have := Ho.out 8 _ rfl; rwa [Nat.zero_add] at this
    have zo_9 : w3.cell? ⟨w2.heap.size, 9, none⟩ = some (.int .i64 c.d.re) := by have := Ho.out 9 _ rfl; rwa [Nat.zero_add] at this
    have zo_10 : w3.cell? ⟨w2.heap.size, 10, none⟩ = some (.int .i64 c.d.im) := by have := Ho.out 10 _ rfl; rwa [Nat.zero_add] at this
    have zo_11 : w3.cell? ⟨w2.heap.size, 11, none⟩ = some (.int .i64 c.d.den) := by have := Ho.out 11 _ rfl; rwa [Nat.zero_add] at this
    go_wp2_with (first | ((with_reducible refine wpList_load_mid ?kl51 29 ?kl5x ?kl52 (w2.heap.size) 0 ?kl53 [.int .i64 c.a.re, .int .i64 c.a.im, .int .i64 c.a.den, .int .i64 c.b.re, .int .i64 c.b.im, .int .i64 c.b.den, .int .i64 c.c.re, .int .i64 c.c.im, .int .i64 c.c.den, .int .i64 c.d.re, .int .i64 c.d.im, .int .i64 c.d.den] ?kl5d ?kl54 ?kl55 ?kl56 ?kl57 ?kl58); (case kl52 => rfl); (case kl51 => rfl); (case kl53 => rfl); (case kl54 => (exact (World.rangeAt_alloc Ho.out _))); (case kl55 => exact Try.underlying29); (case kl56 => rfl); (case kl57 => kernel_rfl)))
    refine (imatadj_any c _).mono ?_
    rintro e w4 ho
    rw [HB2.out] at ho
    obtain ⟨rfl, hb⟩ : e = .returned (.tuple #[.agg #[.int .i64 a.a.re, .int .i64 a.a.im, .int .i64 a.a.den, .int .i64 a.b.re, .int .i64 a.b.im, .int .i64 a.b.den, .int .i64 a.c.re, .int .i64 a.c.im, .int .i64 a.c.den, .int .i64 a.d.re, .int .i64 a.d.im, .int .i64 a.d.den], .bool true]) ∧ Below _ _ _ := ho.fn
    clear ho
    have HB := Lib.hid (show Below w.heap.size w w4 from HB.out.trans ((show Below _ _ _ from ((Below.refl _ _).alloc (by omega) _)).trans (hb.mono (by first | omega | (simp <;> omega)))))
    have Ha : Hid (w4.rangeAt (w1.heap.size) 0 [.int .i64 a.a.re, .int .i64 a.a.im, .int .i64 a.a.den, .int .i64 a.b.re, .int .i64 a.b.im, .int .i64 a.b.den, .int .i64 a.c.re, .int .i64 a.c.im, .int .i64 a.c.den, .int .i64 a.d.re, .int .i64 a.d.im, .int .i64 a.d.den]) := rangeAt_below (World.rangeAt_alloc Ha.out _) hb (by first | omega | (simp; done) | (simp <;> omega))
    have Ho : Hid (w4.rangeAt (w2.heap.size) 0 [.int .i64 c.a.re, .int .i64 c.a.im, .int .i64 c.a.den, .int .i64 c.b.re, .int .i64 c.b.im, .int .i64 c.b.den, .int .i64 c.c.re, .int .i64 c.c.im, .int .i64 c.c.den, .int .i64 c.d.re, .int .i64 c.d.im, .int .i64 c.d.den]) := rangeAt_below (World.rangeAt_alloc Ho.out _) hb (by first | omega | (simp; done) | (simp <;> omega))
    have Hq : Hid (w4.rangeAt w3.heap.size 0 [.int .i64 c.a.re, .int .i64 c.a.im, .int .i64 c.a.den, .int .i64 c.b.re, .int .i64 c.b.im, .int .i64 c.b.den, .int .i64 c.c.re, .int .i64 c.c.im, .int .i64 c.c.den, .int .i64 c.d.re, .int .i64 c.d.im, .int .i64 c.d.den]) := rangeAt_below (rangeAt_new _ _ _) hb (by first | omega | (simp; done) | (simp <;> omega))
    have hz4 := hb.size
    (try simp at hz4)
    clear hb
    have nA0 : w1.heap.size < w4.heap.size := by omega
    have nB0 : ¬ w1.heap.size = w4.heap.size := by omega
    have nC0 : ¬ w4.heap.size = w1.heap.size := by omega
    have nA1 : w2.heap.size < w4.heap.size := by omega
    have nB1 : ¬ w2.heap.size = w4.heap.size := by omega
    have nC1 : ¬ w4.heap.size = w2.heap.size := by omega
    have nA2 : w3.heap.size < w4.heap.size := by omega
    have nB2 : ¬ w3.heap.size = w4.heap.size := by omega
    have nC2 : ¬ w4.heap.size = w3.heap.size := by omega
    go_wp2_with (first | ((with_reducible refine wpList_load_mid ?kl61 29 ?kl6x ?kl62 (w1.heap.size) 0 ?kl63 [.int .i64 a.a.re, .int .i64 a.a.im, .int .i64 a.a.den, .int .i64 a.b.re, .int .i64 a.b.im, .int .i64 a.b.den, .int .i64 a.c.re, .int .i64 a.c.im, .int .i64 a.c.den, .int .i64 a.d.re, .int .i64 a.d.im, .int .i64 a.d.den] ?kl6d ?kl64 ?kl65 ?kl66 ?kl67 ?kl68); (case kl62 => rfl); (case kl61 => rfl); (case kl63 => rfl); (case kl64 => (exact (World.rangeAt_alloc Ha.out _))); (case kl65 => exact Try.underlying29); (case kl66 => rfl); (case kl67 => kernel_rfl)))
    refine (imatdet_any a _).mono ?_
    rintro e w5 ho
    rw [HK.out] at ho
    obtain ⟨rfl, hb⟩ : e = .returned (.tuple #[.agg #[.int .i64 k.re, .int .i64 k.im, .int .i64 k.den], .bool t]) ∧ Below _ _ _ := ho.fn
    clear ho
    have HB := Lib.hid (show Below w.heap.size w w5 from HB.out.trans ((show Below _ _ _ from ((Below.refl _ _).alloc (by omega) _)).trans (hb.mono (by first | omega | (simp <;> omega)))))
    have Ha : Hid (w5.rangeAt (w1.heap.size) 0 [.int .i64 a.a.re, .int .i64 a.a.im, .int .i64 a.a.den, .int .i64 a.b.re, .int .i64 a.b.im, .int .i64 a.b.den, .int .i64 a.c.re, .int .i64 a.c.im, .int .i64 a.c.den, .int .i64 a.d.re, .int .i64 a.d.im, .int .i64 a.d.den]) := rangeAt_below (World.rangeAt_alloc Ha.out _) hb (by first | omega | (simp; done) | (simp <;> omega))
    have Ho : Hid (w5.rangeAt (w2.heap.size) 0 [.int .i64 c.a.re, .int .i64 c.a.im, .int .i64 c.a.den, .int .i64 c.b.re, .int .i64 c.b.im, .int .i64 c.b.den, .int .i64 c.c.re, .int .i64 c.c.im, .int .i64 c.c.den, .int .i64 c.d.re, .int .i64 c.d.im, .int .i64 c.d.den]) := rangeAt_below (World.rangeAt_alloc Ho.out _) hb (by first | omega | (simp; done) | (simp <;> omega))
    have Hq : Hid (w5.rangeAt (w3.heap.size) 0 [.int .i64 c.a.re, .int .i64 c.a.im, .int .i64 c.a.den, .int .i64 c.b.re, .int .i64 c.b.im, .int .i64 c.b.den, .int .i64 c.c.re, .int .i64 c.c.im, .int .i64 c.c.den, .int .i64 c.d.re, .int .i64 c.d.im, .int .i64 c.d.den]) := rangeAt_below (World.rangeAt_alloc Hq.out _) hb (by first | omega | (simp; done) | (simp <;> omega))
    have Hx : Hid (w5.rangeAt w4.heap.size 0 [.int .i64 a.a.re, .int .i64 a.a.im, .int .i64 a.a.den, .int .i64 a.b.re, .int .i64 a.b.im, .int .i64 a.b.den, .int .i64 a.c.re, .int .i64 a.c.im, .int .i64 a.c.den, .int .i64 a.d.re, .int .i64 a.d.im, .int .i64 a.d.den]) := rangeAt_below (rangeAt_new _ _ _) hb (by first | omega | (simp; done) | (simp <;> omega))
    have hz5 := hb.size
    (try simp at hz5)
    clear hb
    have nA0 : w1.heap.size < w5.heap.size := by omega
    have nB0 : ¬ w1.heap.size = w5.heap.size := by omega
    have nC0 : ¬ w5.heap.size = w1.heap.size := by omega
    have nA1 : w2.heap.size < w5.heap.size := by omega
    have nB1 : ¬ w2.heap.size = w5.heap.size := by omega
    have nC1 : ¬ w5.heap.size = w2.heap.size := by omega
    have nA2 : w3.heap.size < w5.heap.size := by omega
    have nB2 : ¬ w3.heap.size = w5.heap.size := by omega
    have nC2 : ¬ w5.heap.size = w3.heap.size := by omega
    have nA3 : w4.heap.size < w5.heap.size := by omega
    have nB3 : ¬ w4.heap.size = w5.heap.size := by omega
    have nC3 : ¬ w5.heap.size = w4.heap.size := by omega
    go_wp2_with (first | ((with_reducible refine wpList_load_mid ?kl71 29 ?kl7x ?kl72 (w2.heap.size) 0 ?kl73 [.int .i64 c.a.re, .int .i64 c.a.im, .int .i64 c.a.den, .int .i64 c.b.re, .int .i64 c.b.im, .int .i64 c.b.den, .int .i64 c.c.re, .int .i64 c.c.im, .int .i64 c.c.den, .int .i64 c.d.re, .int .i64 c.d.im, .int .i64 c.d.den] ?kl7d ?kl74 ?kl75 ?kl76 ?kl77 ?kl78); (case kl72 => rfl); (case kl71 => rfl); (case kl73 => rfl); (case kl74 => (exact (World.rangeAt_alloc Ho.out _))); (case kl75 => exact Try.underlying29); (case kl76 => rfl); (case kl77 => kernel_rfl)))
    refine (imatdet_any c _).mono ?_
    rintro e w6 ho
    rw [HL.out] at ho
    obtain ⟨rfl, hb⟩ : e = .returned (.tuple #[.agg #[.int .i64 l.re, .int .i64 l.im, .int .i64 l.den], .bool y]) ∧ Below _ _ _ := ho.fn
    clear ho
    have HB := Lib.hid (show Below w.heap.size w w6 from HB.out.trans ((show Below _ _ _ from ((Below.refl _ _).alloc (by omega) _)).trans (hb.mono (by first | omega | (simp <;> omega)))))
    have Ha : Hid (w6.rangeAt (w1.heap.size) 0 [.int .i64 a.a.re, .int .i64 a.a.im, .int .i64 a.a.den, .int .i64 a.b.re, .int .i64 a.b.im, .int .i64 a.b.den, .int .i64 a.c.re, .int .i64 a.c.im, .int .i64 a.c.den, .int .i64 a.d.re, .int .i64 a.d.im, .int .i64 a.d.den]) := rangeAt_below (World.rangeAt_alloc Ha.out _) hb (by first | omega | (simp; done) | (simp <;> omega))
    have Ho : Hid (w6.rangeAt (w2.heap.size) 0 [.int .i64 c.a.re, .int .i64 c.a.im, .int .i64 c.a.den, .int .i64 c.b.re, .int .i64 c.b.im, .int .i64 c.b.den, .int .i64 c.c.re, .int .i64 c.c.im, .int .i64 c.c.den, .int .i64 c.d.re, .int .i64 c.d.im, .int .i64 c.d.den]) := rangeAt_below (World.rangeAt_alloc Ho.out _) hb (by first | omega | (simp; done) | (simp <;> omega))
    have Hq : Hid (w6.rangeAt (w3.heap.size) 0 [.int .i64 c.a.re, .int .i64 c.a.im, .int .i64 c.a.den, .int .i64 c.b.re, .int .i64 c.b.im, .int .i64 c.b.den, .int .i64 c.c.re, .int .i64 c.c.im, .int .i64 c.c.den, .int .i64 c.d.re, .int .i64 c.d.im, .int .i64 c.d.den]) := rangeAt_below (World.rangeAt_alloc Hq.out _) hb (by first | omega | (simp; done) | (simp <;> omega))
    have Hx : Hid (w6.rangeAt (w4.heap.size) 0 [.int .i64 a.a.re, .int .i64 a.a.im, .int .i64 a.a.den, .int .i64 a.b.re, .int .i64 a.b.im, .int .i64 a.b.den, .int .i64 a.c.re, .int .i64 a.c.im, .int .i64 a.c.den, .int .i64 a.d.re, .int .i64 a.d.im, .int .i64 a.d.den]) := rangeAt_below (World.rangeAt_alloc Hx.out _) hb (by first | omega | (simp; done) | (simp <;> omega))
    have Hk : Hid (w6.rangeAt w5.heap.size 0 [.int .i64 k.re, .int .i64 k.im, .int .i64 k.den]) := rangeAt_below (rangeAt_new _ _ _) hb (by first | omega | (simp; done) | (simp <;> omega))
    have hz6 := hb.size
    (try simp at hz6)
    clear hb
    have nA0 : w1.heap.size < w6.heap.size := by omega
    have nB0 : ¬ w1.heap.size = w6.heap.size := by omega
    have nC0 : ¬ w6.heap.size = w1.heap.size := by omega
    have nA1 : w2.heap.size < w6.heap.size := by omega
    have nB1 : ¬ w2.heap.size = w6.heap.size := by omega
    have nC1 : ¬ w6.heap.size = w2.heap.size := by omega
    have nA2 : w3.heap.size < w6.heap.size := by omega
    have nB2 : ¬ w3.heap.size = w6.heap.size := by omega
    have nC2 : ¬ w6.heap.size = w3.heap.size := by omega
    have nA3 : w4.heap.size < w6.heap.size := by omega
    have nB3 : ¬ w4.heap.size = w6.heap.size := by omega
    have nC3 : ¬ w6.heap.size = w4.heap.size := by omega
    have nA4 : w5.heap.size < w6.heap.size := by omega
    have nB4 : ¬ w5.heap.size = w6.heap.size := by omega
    have nC4 : ¬ w6.heap.size = w5.heap.size := by omega
    have zk_0 : w6.cell? ⟨w5.heap.size, 0, none⟩ = some (.int .i64 k.re) := by have := Hk.out 0 _ rfl; rwa [Nat.zero_add] at this
    have zk_1 : w6.cell? ⟨w5.heap.size, 1, none⟩ = some (.int .i64 k.im) := by have := Hk.out 1 _ rfl; rwa [Nat.zero_add] at this
    have zk_2 : w6.cell? ⟨w5.heap.size, 2, none⟩ = some (.int .i64 k.den) := by have := Hk.out 2 _ rfl; rwa [Nat.zero_add] at this
    go_wp2_with (first | ((with_reducible refine wpList_load_mid ?kl81 26 ?kl8x ?kl82 (w5.heap.size) 0 ?kl83 [.int .i64 k.re, .int .i64 k.im, .int .i64 k.den] ?kl8d ?kl84 ?kl85 ?kl86 ?kl87 ?kl88); (case kl82 => rfl); (case kl81 => rfl); (case kl83 => rfl); (case kl84 => (exact (World.rangeAt_alloc Hk.out _))); (case kl85 => exact Try.underlying26); (case kl86 => rfl); (case kl87 => kernel_rfl)))
    refine (mirror_fr k _).mono ?_
    rintro e w7 ho
    rw [HN.out] at ho
    obtain ⟨rfl, hb⟩ : e = .returned (.tuple #[.agg #[.int .i64 n.re, .int .i64 n.im, .int .i64 n.den], .bool z]) ∧ Below _ _ _ := ho.fn
    clear ho
    have HB := Lib.hid (show Below w.heap.size w w7 from HB.out.trans ((show Below _ _ _ from ((Below.refl _ _).alloc (by omega) _)).trans (hb.mono (by first | omega | (simp <;> omega)))))
    have Ha : Hid (w7.rangeAt (w1.heap.size) 0 [.int .i64 a.a.re, .int .i64 a.a.im, .int .i64 a.a.den, .int .i64 a.b.re, .int .i64 a.b.im, .int .i64 a.b.den, .int .i64 a.c.re, .int .i64 a.c.im, .int .i64 a.c.den, .int .i64 a.d.re, .int .i64 a.d.im, .int .i64 a.d.den]) := rangeAt_below (World.rangeAt_alloc Ha.out _) hb (by first | omega | (simp; done) | (simp <;> omega))
    have Ho : Hid (w7.rangeAt (w2.heap.size) 0 [.int .i64 c.a.re, .int .i64 c.a.im, .int .i64 c.a.den, .int .i64 c.b.re, .int .i64 c.b.im, .int .i64 c.b.den, .int .i64 c.c.re, .int .i64 c.c.im, .int .i64 c.c.den, .int .i64 c.d.re, .int .i64 c.d.im, .int .i64 c.d.den]) := rangeAt_below (World.rangeAt_alloc Ho.out _) hb (by first | omega | (simp; done) | (simp <;> omega))
    have Hq : Hid (w7.rangeAt (w3.heap.size) 0 [.int .i64 c.a.re, .int .i64 c.a.im, .int .i64 c.a.den, .int .i64 c.b.re, .int .i64 c.b.im, .int .i64 c.b.den, .int .i64 c.c.re, .int .i64 c.c.im, .int .i64 c.c.den, .int .i64 c.d.re, .int .i64 c.d.im, .int .i64 c.d.den]) := rangeAt_below (World.rangeAt_alloc Hq.out _) hb (by first | omega | (simp; done) | (simp <;> omega))
    have Hx : Hid (w7.rangeAt (w4.heap.size) 0 [.int .i64 a.a.re, .int .i64 a.a.im, .int .i64 a.a.den, .int .i64 a.b.re, .int .i64 a.b.im, .int .i64 a.b.den, .int .i64 a.c.re, .int .i64 a.c.im, .int .i64 a.c.den, .int .i64 a.d.re, .int .i64 a.d.im, .int .i64 a.d.den]) := rangeAt_below (World.rangeAt_alloc Hx.out _) hb (by first | omega | (simp; done) | (simp <;> omega))
    have Hk : Hid (w7.rangeAt (w5.heap.size) 0 [.int .i64 k.re, .int .i64 k.im, .int .i64 k.den]) := rangeAt_below (World.rangeAt_alloc Hk.out _) hb (by first | omega | (simp; done) | (simp <;> omega))
    have Hl : Hid (w7.rangeAt w6.heap.size 0 [.int .i64 l.re, .int .i64 l.im, .int .i64 l.den]) := rangeAt_below (rangeAt_new _ _ _) hb (by first | omega | (simp; done) | (simp <;> omega))
    have hz7 := hb.size
    (try simp at hz7)
    clear hb
    have nA0 : w1.heap.size < w7.heap.size := by omega
    have nB0 : ¬ w1.heap.size = w7.heap.size := by omega
    have nC0 : ¬ w7.heap.size = w1.heap.size := by omega
    have nA1 : w2.heap.size < w7.heap.size := by omega
    have nB1 : ¬ w2.heap.size = w7.heap.size := by omega
    have nC1 : ¬ w7.heap.size = w2.heap.size := by omega
    have nA2 : w3.heap.size < w7.heap.size := by omega
    have nB2 : ¬ w3.heap.size = w7.heap.size := by omega
    have nC2 : ¬ w7.heap.size = w3.heap.size := by omega
    have nA3 : w4.heap.size < w7.heap.size := by omega
    have nB3 : ¬ w4.heap.size = w7.heap.size := by omega
    have nC3 : ¬ w7.heap.size = w4.heap.size := by omega
    have nA4 : w5.heap.size < w7.heap.size := by omega
    have nB4 : ¬ w5.heap.size = w7.heap.size := by omega
    have nC4 : ¬ w7.heap.size = w5.heap.size := by omega
    have nA5 : w6.heap.size < w7.heap.size := by omega
    have nB5 : ¬ w6.heap.size = w7.heap.size := by omega
    have nC5 : ¬ w7.heap.size = w6.heap.size := by omega
    have hEq2 : ∀ w, (Op.equalIn 10000 29 (.agg #[.int .i64 a.a.re, .int .i64 a.a.im, .int .i64 a.a.den, .int .i64 a.b.re, .int .i64 a.b.im, .int .i64 a.b.den, .int .i64 a.c.re, .int .i64 a.c.im, .int .i64 a.c.den, .int .i64 a.d.re, .int .i64 a.d.im, .int .i64 a.d.den]) (.agg #[.int .i64 a.a.re, .int .i64 a.a.im, .int .i64 a.a.den, .int .i64 a.b.re, .int .i64 a.b.im, .int .i64 a.b.den, .int .i64 a.c.re, .int .i64 a.c.im, .int .i64 a.c.den, .int .i64 a.d.re, .int .i64 a.d.im, .int .i64 a.d.den])).run Try.prog w = .ok true w := eqMat_run a
    have zx_0 : w7.cell? ⟨w4.heap.size, 0, none⟩ = some (.int .i64 a.a.re) := by have := Hx.out 0 _ rfl; rwa [Nat.zero_add] at this
    have zx_1 : w7.cell? ⟨w4.heap.size, 1, none⟩ = some (.int .i64 a.a.im) := by have := Hx.out 1 _ rfl; rwa [Nat.zero_add] at this
    have zx_2 : w7.cell? ⟨w4.heap.size, 2, none⟩ = some (.int .i64 a.a.den) := by have := Hx.out 2 _ rfl; rwa [Nat.zero_add] at this
    have zx_3 : w7.cell? ⟨w4.heap.size, 3, none⟩ = some (.int .i64 a.b.re) := by have := Hx.out 3 _ rfl; rwa [Nat.zero_add] at this
    have zx_4 : w7.cell? ⟨w4.heap.size, 4, none⟩ = some (.int .i64 a.b.im) := by have := Hx.out 4 _ rfl; rwa [Nat.zero_add] at this
    have zx_5 : w7.cell? ⟨w4.heap.size, 5, none⟩ = some (.int .i64 a.b.den) := by have := Hx.out 5 _ rfl; rwa [Nat.zero_add] at this
    have zx_6 : w7.cell? ⟨w4.heap.size, 6, none⟩ = some (.int .i64 a.c.re) := by have := Hx.out 6 _ rfl; rwa [Nat.zero_add] at this
    have zx_7 : w7.cell? ⟨w4.heap.size, 7, none⟩ = some (.int .i64 a.c.im) := by have := Hx.out 7 _ rfl; rwa [Nat.zero_add] at this
    have zx_8 : w7.cell? ⟨w4.heap.size, 8, none⟩ = some (.int .i64 a.c.den) := by have := Hx.out 8 _ rfl; rwa [Nat.zero_add] at this
    have zx_9 : w7.cell? ⟨w4.heap.size, 9, none⟩ = some (.int .i64 a.d.re) := by have := Hx.out 9 _ rfl; rwa [Nat.zero_add] at this
    have zx_10 : w7.cell? ⟨w4.heap.size, 10, none⟩ = some (.int .i64 a.d.im) := by have := Hx.out 10 _ rfl; rwa [Nat.zero_add] at this
    have zx_11 : w7.cell? ⟨w4.heap.size, 11, none⟩ = some (.int .i64 a.d.den) := by have := Hx.out 11 _ rfl; rwa [Nat.zero_add] at this
    have za_0 : w7.cell? ⟨w1.heap.size, 0, none⟩ = some (.int .i64 a.a.re) := by have := Ha.out 0 _ rfl; rwa [Nat.zero_add] at this
    have za_1 : w7.cell? ⟨w1.heap.size, 1, none⟩ = some (.int .i64 a.a.im) := by have := Ha.out 1 _ rfl; rwa [Nat.zero_add] at this
    have za_2 : w7.cell? ⟨w1.heap.size, 2, none⟩ = some (.int .i64 a.a.den) := by have := Ha.out 2 _ rfl; rwa [Nat.zero_add] at this
    have za_3 : w7.cell? ⟨w1.heap.size, 3, none⟩ = some (.int .i64 a.b.re) := by have := Ha.out 3 _ rfl; rwa [Nat.zero_add] at this
    have za_4 : w7.cell? ⟨w1.heap.size, 4, none⟩ = some (.int .i64 a.b.im) := by have := Ha.out 4 _ rfl; rwa [Nat.zero_add] at this
    have za_5 : w7.cell? ⟨w1.heap.size, 5, none⟩ = some (.int .i64 a.b.den) := by have := Ha.out 5 _ rfl; rwa [Nat.zero_add] at this
    have za_6 : w7.cell? ⟨w1.heap.size, 6, none⟩ = some (.int .i64 a.c.re) := by have := Ha.out 6 _ rfl; rwa [Nat.zero_add] at this
    have za_7 : w7.cell? ⟨w1.heap.size, 7, none⟩ = some (.int .i64 a.c.im) := by have := Ha.out 7 _ rfl; rwa [Nat.zero_add] at this
    have za_8 : w7.cell? ⟨w1.heap.size, 8, none⟩ = some (.int .i64 a.c.den) := by have := Ha.out 8 _ rfl; rwa [Nat.zero_add] at this
    have za_9 : w7.cell? ⟨w1.heap.size, 9, none⟩ = some (.int .i64 a.d.re) := by have := Ha.out 9 _ rfl; rwa [Nat.zero_add] at this
    have za_10 : w7.cell? ⟨w1.heap.size, 10, none⟩ = some (.int .i64 a.d.im) := by have := Ha.out 10 _ rfl; rwa [Nat.zero_add] at this
    have za_11 : w7.cell? ⟨w1.heap.size, 11, none⟩ = some (.int .i64 a.d.den) := by have := Ha.out 11 _ rfl; rwa [Nat.zero_add] at this
    have zl_0 : w7.cell? ⟨w6.heap.size, 0, none⟩ = some (.int .i64 l.re) := by have := Hl.out 0 _ rfl; rwa [Nat.zero_add] at this
    have zl_1 : w7.cell? ⟨w6.heap.size, 1, none⟩ = some (.int .i64 l.im) := by have := Hl.out 1 _ rfl; rwa [Nat.zero_add] at this
    have zl_2 : w7.cell? ⟨w6.heap.size, 2, none⟩ = some (.int .i64 l.den) := by have := Hl.out 2 _ rfl; rwa [Nat.zero_add] at this
    cases t
    · skip
      go_wp2_with fail
      go_ret
      exact ⟨rfl, (by (repeat' first | (with_reducible exact HB.out) | with_reducible refine setCells_below _ _ _ ?_ (by first | omega | (simp <;> omega)) | with_reducible refine Below.setCell ?_ (by show _ ≤ _; first | omega | (simp <;> omega) | simp) _ | with_reducible refine Below.alloc ?_ (by first | omega | (simp <;> omega)) _ | with_reducible apply Below.drew))⟩
    cases y
    · skip
      go_wp2_with fail
      go_ret
      exact ⟨rfl, (by (repeat' first | (with_reducible exact HB.out) | with_reducible refine setCells_below _ _ _ ?_ (by first | omega | (simp <;> omega)) | with_reducible refine Below.setCell ?_ (by show _ ≤ _; first | omega | (simp <;> omega) | simp) _ | with_reducible refine Below.alloc ?_ (by first | omega | (simp <;> omega)) _ | with_reducible apply Below.drew))⟩
    obtain ⟨rfl, e⟩ := HM.out rfl rfl
    subst e
    go_wp2_with fail
    go_ret
    exact ⟨rfl, (by (repeat' first | (with_reducible exact HB.out) | with_reducible refine setCells_below _ _ _ ?_ (by first | omega | (simp <;> omega)) | with_reducible refine Below.setCell ?_ (by show _ ≤ _; first | omega | (simp <;> omega) | simp) _ | with_reducible refine Below.alloc ?_ (by first | omega | (simp <;> omega)) _ | with_reducible apply Below.drew))⟩

set_option maxRecDepth 100000 in
theorem lifted_FnAdjoint (os : Os) (started : os.Started) (H : Type) (enc : TypeId × Value → H) :
    ReturnsInHanded {} Try.checked os 4 .any (Rows.fnAdjointSpec.pre6 enc Try.prog Try.f4 Rows.fnAdjointRow.domain false) (Rows.fnAdjointSpec.post enc Try.prog Try.f4 false true false false) := by
  refine returnsInHanded_of_change (C := Try.checked) Try.own started (by kernel_rfl) Try.func4
    (ChangeSpec.witness6 (enc := enc) (C := Try.checked) false ⟨#[], #[.slice none 0 0], []⟩ 8 (by kernel_rfl) (by kernel_rfl) (by kernel_rfl) (by kernel_rfl)) ?_
  intro W base args ds gs before hval0 hW hcnd _
  have hval : ∀ (j : Nat) t v, Try.f4.params[j]? = some t → args[j]? = some v → Value.okWide Try.prog W .any base t v := hval0
  have hW' := hW
  obtain ⟨p, q, hA0, hV, rfl, hfz, hnd⟩ := hW
  have hA : DataW.TrodAll enc Try.prog W 0 (fun _ => true) true Try.f4.params.toList args.toList ds p := hA0
  rw [Try.params4] at hA hval
  obtain ⟨v0, d0, rfl, rfl, h0⟩ := trodAll_one hA
  obtain ⟨rfl, rfl⟩ := trodVars_none hV
  have h0k := h0
  obtain ⟨fuel, hf⟩ := h0
  clear hA0 hval0
  simp only [List.append_nil] at hW'
  have hlt : ∀ x ∈ p, x.block < W.heap.size := fun x hx => by simpa using hW'.lt x hx
  obtain ⟨a0, len, cap, rfl⟩ := okWide_slice Try.underlying22 (hval 0 22 v0 rfl rfl)
  obtain ⟨hcap, HC⟩ := open_code hf hlt
  refine (walk_FnAdjoint a0 len cap W hcap HC).mono fun e W' ⟨he, hb⟩ => ?_
  subst he
  refine ⟨_, rfl, _, _, _, [], p, [], hW', trodAll_mk1 (shut_bool Try.underlying4 _), trodAll_mk1 (Below.trod Try.laidOut (by kernel_rfl) (of_decide_eq_true (by kernel_rfl)) h0k hb (fun x hx => hlt x (by simp [hx]))), rfl, hb.frame _, fun h => by cases h⟩

/-- THE STATEMENT. -/
theorem holds_FnAdjoint : Rows.FnAdjointSaid :=
  OpenClaim.holds_of_wide 4 Try.f4 rfl rfl rfl rfl rfl rfl rfl ⟨rfl, rfl, rfl, rfl, rfl⟩ rfl rfl rfl rfl rfl (by kernel_rfl) Try.func4 (by kernel_rfl)
    (of_decide_eq_true (by kernel_rfl)) (by unfold Func.isWrapper; first | (rw [if_pos (by decide +kernel)]; kernel_rfl) | (rw [if_neg (by decide +kernel)]; exact ⟨rfl, rfl⟩))
    (fun os started H enc _ => lifted_FnAdjoint os started H enc)
end Go.Proofs.Ytcpdapfcbnhgaaa
