/- Vectors add up. -/
import Derived.Test.YtlmpbijhidnekaaDW
import Derived.Test.YtlmpbijhidnekaaDT2
import Derived.Test.YtlmpbijhidnekaaDW2J
import Derived.Test.YtlmpbijhidnekaaJ3
import Derived.Test.YtlmpbijhidnekaaQJP
namespace Go.Proofs.Ytlmpbijhidnekaa
open Go.ChangeShapes Go.WideShapes Go.ChangeAt Go.RowKit Pol

set_option maxRecDepth 100000 in
set_option maxHeartbeats 40000000 in
theorem walk_FnJonesAdd (a0 : Option Addr) (len cap : Nat) (w : World) (hcap : len ≤ cap) (HC : Code w.heap.size w a0 len) :
    Calls Try.prog 4 #[.slice a0 len cap] w fun e w' => e = .returned (.bool true) ∧ Below w.heap.size w w' := by
  by_cases hbig : 1048576 < len
  · have h1 : (1048576 : Int) < (len : Int) := by omega
    go_enter Try.func4, Try.ntmps4
    go_wp2
    go_ret
    exact ⟨rfl, Below.refl _ _⟩
  have h1 : ¬ (1048576 : Int) < (len : Int) := by omega
  go_enter Try.func4, Try.ntmps4
  go_wp2_with fail
  refine (DrawJonesAdd_any a0 len cap _ hcap HC).mono ?_
  rintro e w1 ⟨a, b, rfl, hb⟩
  have HB := Lib.hid (show Below w.heap.size w w1 from hb)
  have hz1 := hb.size
  (try simp at hz1)
  clear hb
  cases hg : (jAdd a b).2
  · skip
    have HG : Hid (jAdd a b = (j2z, false)) := j2of_no hg
    go_wp2_with (first | ((with_reducible refine wpList_load_mid ?kl11 26 ?kl1x ?kl12 (w1.heap.size) 0 ?kl13 [.int .i64 a.x.re, .int .i64 a.x.im, .int .i64 a.x.den, .int .i64 a.y.re, .int .i64 a.y.im, .int .i64 a.y.den] ?kl1d ?kl14 ?kl15 ?kl16 ?kl17 ?kl18); (case kl12 => rfl); (case kl11 => rfl); (case kl13 => rfl); (case kl14 => (exact (World.rangeAt_alloc (rangeAt_new _ _ _) _))); (case kl15 => exact Try.underlying26); (case kl16 => rfl); (case kl17 => kernel_rfl)) | ((with_reducible refine wpList_load_mid ?kl21 26 ?kl2x ?kl22 (w1.heap.size + 1) 0 ?kl23 [.int .i64 b.x.re, .int .i64 b.x.im, .int .i64 b.x.den, .int .i64 b.y.re, .int .i64 b.y.im, .int .i64 b.y.den] ?kl2d ?kl24 ?kl25 ?kl26 ?kl27 ?kl28); (case kl22 => rfl); (case kl21 => rfl); (case kl23 => rfl); (case kl24 => (exact (rangeAt_new2 (by simp)))); (case kl25 => exact Try.underlying26); (case kl26 => rfl); (case kl27 => kernel_rfl)))
    refine (ijadd a b _).mono ?_
    rintro e w2 ho
    rw [HG.out] at ho
    obtain ⟨rfl, hb⟩ : e = .returned (.tuple #[.agg #[.int .i64 j2z.x.re, .int .i64 j2z.x.im, .int .i64 j2z.x.den, .int .i64 j2z.y.re, .int .i64 j2z.y.im, .int .i64 j2z.y.den], .bool false]) ∧ Below _ _ _ := ho.fn
    clear ho
    have HB := Lib.hid (show Below w.heap.size w w2 from HB.out.trans ((show Below _ _ _ from (((Below.refl _ _).alloc (by omega) _).alloc (by first | omega | (simp; done) | (simp <;> omega)) _)).trans (hb.mono (by first | omega | (simp <;> omega)))))
    have Ha : Hid (w2.rangeAt w1.heap.size 0 [.int .i64 a.x.re, .int .i64 a.x.im, .int .i64 a.x.den, .int .i64 a.y.re, .int .i64 a.y.im, .int .i64 a.y.den]) := rangeAt_below (World.rangeAt_alloc (rangeAt_new _ _ _) _) hb (by first | omega | (simp; done) | (simp <;> omega))
    have Hb : Hid (w2.rangeAt (w1.heap.size + 1) 0 [.int .i64 b.x.re, .int .i64 b.x.im, .int .i64 b.x.den, .int .i64 b.y.re, .int .i64 b.y.im, .int .i64 b.y.den]) := rangeAt_below (rangeAt_new2 (by simp)) hb (by first | omega | (simp; done) | (simp <;> omega))
    have hz2 := hb.size
    (try simp at hz2)
    clear hb
    have nA0 : w1.heap.size < w2.heap.size := by omega
    have nB0 : ¬ w1.heap.size = w2.heap.size := by omega
    have nC0 : ¬ w2.heap.size = w1.heap.size := by omega
    have nA1 : w1.heap.size + 1 < w2.heap.size := by omega
    have nB1 : ¬ w1.heap.size + 1 = w2.heap.size := by omega
    have nC1 : ¬ w2.heap.size = w1.heap.size + 1 := by omega
    go_wp2_with (first | ((with_reducible refine wpList_load_mid ?kl31 26 ?kl3x ?kl32 (w1.heap.size) 0 ?kl33 [.int .i64 a.x.re, .int .i64 a.x.im, .int .i64 a.x.den, .int .i64 a.y.re, .int .i64 a.y.im, .int .i64 a.y.den] ?kl3d ?kl34 ?kl35 ?kl36 ?kl37 ?kl38); (case kl32 => rfl); (case kl31 => rfl); (case kl33 => rfl); (case kl34 => (exact (World.rangeAt_alloc Ha.out _))); (case kl35 => exact Try.underlying26); (case kl36 => rfl); (case kl37 => kernel_rfl)) | ((with_reducible refine wpList_load_mid ?kl41 26 ?kl4x ?kl42 (w1.heap.size + 1) 0 ?kl43 [.int .i64 b.x.re, .int .i64 b.x.im, .int .i64 b.x.den, .int .i64 b.y.re, .int .i64 b.y.im, .int .i64 b.y.den] ?kl4d ?kl44 ?kl45 ?kl46 ?kl47 ?kl48); (case kl42 => rfl); (case kl41 => rfl); (case kl43 => rfl); (case kl44 => (exact (World.rangeAt_alloc Hb.out _))); (case kl45 => exact Try.underlying26); (case kl46 => rfl); (case kl47 => kernel_rfl)))
    refine (sjadd_any a b _).mono ?_
    rintro e w3 ho
    rw [HG.out] at ho
    obtain ⟨rfl, hb⟩ : e = .returned (.tuple #[.agg #[.int .i64 j2z.x.re, .int .i64 j2z.x.im, .int .i64 j2z.x.den, .int .i64 j2z.y.re, .int .i64 j2z.y.im, .int .i64 j2z.y.den], .bool false]) ∧ Below _ _ _ := ho.fn
    clear ho
    have HB := Lib.hid (show Below w.heap.size w w3 from HB.out.trans ((show Below _ _ _ from ((Below.refl _ _).alloc (by omega) _)).trans (hb.mono (by first | omega | (simp <;> omega)))))
    have Ha : Hid (w3.rangeAt (w1.heap.size) 0 [.int .i64 a.x.re, .int .i64 a.x.im, .int .i64 a.x.den, .int .i64 a.y.re, .int .i64 a.y.im, .int .i64 a.y.den]) := rangeAt_below (World.rangeAt_alloc Ha.out _) hb (by first | omega | (simp; done) | (simp <;> omega))
    have Hb : Hid (w3.rangeAt (w1.heap.size + 1) 0 [.int .i64 b.x.re, .int .i64 b.x.im, .int .i64 b.x.den, .int .i64 b.y.re, .int .i64 b.y.im, .int .i64 b.y.den]) := rangeAt_below (World.rangeAt_alloc Hb.out _) hb (by first | omega | (simp; done) | (simp <;> omega))
    have Ho : Hid (w3.rangeAt w2.heap.size 0 [.int .i64 j2z.x.re, .int .i64 j2z.x.im, .int .i64 j2z.x.den, .int .i64 j2z.y.re, .int .i64 j2z.y.im, .int .i64 j2z.y.den]) := rangeAt_below (rangeAt_new _ _ _) hb (by first | omega | (simp; done) | (simp <;> omega))
    have hz3 := hb.size
    (try simp at hz3)
    clear hb
    have nA0 : w1.heap.size < w3.heap.size := by omega
    have nB0 : ¬ w1.heap.size = w3.heap.size := by omega
    have nC0 : ¬ w3.heap.size = w1.heap.size := by omega
    have nA1 : w1.heap.size + 1 < w3.heap.size := by omega
    have nB1 : ¬ w1.heap.size + 1 = w3.heap.size := by omega
    have nC1 : ¬ w3.heap.size = w1.heap.size + 1 := by omega
    have nA2 : w2.heap.size < w3.heap.size := by omega
    have nB2 : ¬ w2.heap.size = w3.heap.size := by omega
    have nC2 : ¬ w3.heap.size = w2.heap.size := by omega
    have zo_0 : w3.cell? ⟨w2.heap.size, 0, none⟩ = some (.int .i64 j2z.x.re) := by have := Ho.out 0 _ rfl; rwa [Nat.zero_add] at this
    have zo_1 : w3.cell? ⟨w2.heap.size, 1, none⟩ = some (.int .i64 j2z.x.im) := by have := Ho.out 1 _ rfl; rwa [Nat.zero_add] at this
    have zo_2 : w3.cell? ⟨w2.heap.size, 2, none⟩ = some (.int .i64 j2z.x.den) := by have := Ho.out 2 _ rfl; rwa [Nat.zero_add] at this
    have zo_3 : w3.cell? ⟨w2.heap.size, 3, none⟩ = some (.int .i64 j2z.y.re) := by have := Ho.out 3 _ rfl; rwa [Nat.zero_add] at this
    have zo_4 : w3.cell? ⟨w2.heap.size, 4, none⟩ = some (.int .i64 j2z.y.im) := by have := Ho.out 4 _ rfl; rwa [Nat.zero_add] at this
    have zo_5 : w3.cell? ⟨w2.heap.size, 5, none⟩ = some (.int .i64 j2z.y.den) := by have := Ho.out 5 _ rfl; rwa [Nat.zero_add] at this
    go_wp2_with fail
    go_ret
    exact ⟨rfl, (by (repeat' first | (with_reducible exact HB.out) | with_reducible refine setCells_below _ _ _ ?_ (by first | omega | (simp <;> omega)) | with_reducible refine Below.setCell ?_ (by show _ ≤ _; first | omega | (simp <;> omega) | simp) _ | with_reducible refine Below.alloc ?_ (by first | omega | (simp <;> omega)) _ | with_reducible apply Below.drew))⟩
  · skip
    obtain ⟨m, hm⟩ : ∃ m, m = (jAdd a b).1 := ⟨_, rfl⟩
    have h1 : jAdd a b = (m, true) := by rw [hm, ← hg]
    have hvb := (jAdd_ok h1).1.2
    have HM : Hid (jTim b fM1 = (jNeg b, true)) := jTim_m1 hvb
    obtain ⟨n, hn⟩ : ∃ n, n = jNeg b := ⟨_, rfl⟩
    obtain ⟨L, r1, e1⟩ : ∃ L r, jAdd a n = (L, r) := ⟨_, _, rfl⟩
    obtain ⟨U, r2, e2⟩ : ∃ L r, jPow m = (L, r) := ⟨_, _, rfl⟩
    obtain ⟨V, r3, e3⟩ : ∃ X r, jPow L = (X, r) := ⟨_, _, rfl⟩
    obtain ⟨W, r4, e4⟩ : ∃ L r, jPow a = (L, r) := ⟨_, _, rfl⟩
    obtain ⟨Y, r5, e5⟩ : ∃ L r, jPow b = (L, r) := ⟨_, _, rfl⟩
    obtain ⟨B, r6, e6⟩ : ∃ L r, fAdd W Y = (L, r) := ⟨_, _, rfl⟩
    obtain ⟨T, r7, e7⟩ : ∃ L r, fAdd B B = (L, r) := ⟨_, _, rfl⟩
    obtain ⟨S, r8, e8⟩ : ∃ L r, fAdd U V = (L, r) := ⟨_, _, rfl⟩
    have HPAR : Hid (r1 = true → r2 = true → r3 = true → r4 = true → r5 = true → r6 = true → r7 = true → r8 = true → S = T) := by
      intro q1 q2 q3 q4 q5 q6 q7 q8
      exact par (a := a) (b := b) h1 (by rw [← hn, e1, q1]) (by rw [e2, q2]) (by rw [e3, q3]) (by rw [e4, q4]) (by rw [e5, q5]) (by rw [e6, q6]) (by rw [e7, q7]) (by rw [e8, q8])
    have HG := Lib.hid h1
    have HG2 : Hid (jAdd b a = (m, true)) := (jAdd_comm b a).trans h1
    rw [← hn] at HM
    have E1 := Lib.hid e1; have E2 := Lib.hid e2; have E3 := Lib.hid e3; have E4 := Lib.hid e4; have E5 := Lib.hid e5; have E6 := Lib.hid e6; have E7 := Lib.hid e7; have E8 := Lib.hid e8
    clear e1 e2 e3 e4 e5 e6 e7 e8 hn hm h1 hg hvb
    go_wp2_with (first | ((with_reducible refine wpList_load_mid ?kl51 26 ?kl5x ?kl52 (w1.heap.size) 0 ?kl53 [.int .i64 a.x.re, .int .i64 a.x.im, .int .i64 a.x.den, .int .i64 a.y.re, .int .i64 a.y.im, .int .i64 a.y.den] ?kl5d ?kl54 ?kl55 ?kl56 ?kl57 ?kl58); (case kl52 => rfl); (case kl51 => rfl); (case kl53 => rfl); (case kl54 => (exact (World.rangeAt_alloc (rangeAt_new _ _ _) _))); (case kl55 => exact Try.underlying26); (case kl56 => rfl); (case kl57 => kernel_rfl)) | ((with_reducible refine wpList_load_mid ?kl61 26 ?kl6x ?kl62 (w1.heap.size + 1) 0 ?kl63 [.int .i64 b.x.re, .int .i64 b.x.im, .int .i64 b.x.den, .int .i64 b.y.re, .int .i64 b.y.im, .int .i64 b.y.den] ?kl6d ?kl64 ?kl65 ?kl66 ?kl67 ?kl68); (case kl62 => rfl); (case kl61 => rfl); (case kl63 => rfl); (case kl64 => (exact (rangeAt_new2 (by simp)))); (case kl65 => exact Try.underlying26); (case kl66 => rfl); (case kl67 => kernel_rfl)))
    refine (ijadd a b _).mono ?_
    rintro e w2 ho
    rw [HG.out] at ho
    obtain ⟨rfl, hb⟩ : e = .returned (.tuple #[.agg #[.int .i64 m.x.re, .int .i64 m.x.im, .int .i64 m.x.den, .int .i64 m.y.re, .int .i64 m.y.im, .int .i64 m.y.den], .bool true]) ∧ Below _ _ _ := ho.fn
    clear ho
    have HB := Lib.hid (show Below w.heap.size w w2 from HB.out.trans ((show Below _ _ _ from (((Below.refl _ _).alloc (by omega) _).alloc (by first | omega | (simp; done) | (simp <;> omega)) _)).trans (hb.mono (by first | omega | (simp <;> omega)))))
    have Ha : Hid (w2.rangeAt w1.heap.size 0 [.int .i64 a.x.re, .int .i64 a.x.im, .int .i64 a.x.den, .int .i64 a.y.re, .int .i64 a.y.im, .int .i64 a.y.den]) := rangeAt_below (World.rangeAt_alloc (rangeAt_new _ _ _) _) hb (by first | omega | (simp; done) | (simp <;> omega))
    have Hb : Hid (w2.rangeAt (w1.heap.size + 1) 0 [.int .i64 b.x.re, .int .i64 b.x.im, .int .i64 b.x.den, .int .i64 b.y.re, .int .i64 b.y.im, .int .i64 b.y.den]) := rangeAt_below (rangeAt_new2 (by simp)) hb (by first | omega | (simp; done) | (simp <;> omega))
    have hz2 := hb.size
    (try simp at hz2)
    clear hb
    have nA0 : w1.heap.size < w2.heap.size := by omega
    have nB0 : ¬ w1.heap.size = w2.heap.size := by omega
    have nC0 : ¬ w2.heap.size = w1.heap.size := by omega
    have nA1 : w1.heap.size + 1 < w2.heap.size := by omega
    have nB1 : ¬ w1.heap.size + 1 = w2.heap.size := by omega
    have nC1 : ¬ w2.heap.size = w1.heap.size + 1 := by omega
    go_wp2_with (first | ((with_reducible refine wpList_load_mid ?kl71 26 ?kl7x ?kl72 (w1.heap.size) 0 ?kl73 [.int .i64 a.x.re, .int .i64 a.x.im, .int .i64 a.x.den, .int .i64 a.y.re, .int .i64 a.y.im, .int .i64 a.y.den] ?kl7d ?kl74 ?kl75 ?kl76 ?kl77 ?kl78); (case kl72 => rfl); (case kl71 => rfl); (case kl73 => rfl); (case kl74 => (exact (World.rangeAt_alloc Ha.out _))); (case kl75 => exact Try.underlying26); (case kl76 => rfl); (case kl77 => kernel_rfl)) | ((with_reducible refine wpList_load_mid ?kl81 26 ?kl8x ?kl82 (w1.heap.size + 1) 0 ?kl83 [.int .i64 b.x.re, .int .i64 b.x.im, .int .i64 b.x.den, .int .i64 b.y.re, .int .i64 b.y.im, .int .i64 b.y.den] ?kl8d ?kl84 ?kl85 ?kl86 ?kl87 ?kl88); (case kl82 => rfl); (case kl81 => rfl); (case kl83 => rfl); (case kl84 => (exact (World.rangeAt_alloc Hb.out _))); (case kl85 => exact Try.underlying26); (case kl86 => rfl); (case kl87 => kernel_rfl)))
    refine (sjadd_any a b _).mono ?_
    rintro e w3 ho
    rw [HG.out] at ho
    obtain ⟨rfl, hb⟩ : e = .returned (.tuple #[.agg #[.int .i64 m.x.re, .int .i64 m.x.im, .int .i64 m.x.den, .int .i64 m.y.re, .int .i64 m.y.im, .int .i64 m.y.den], .bool true]) ∧ Below _ _ _ := ho.fn
    clear ho
    have HB := Lib.hid (show Below w.heap.size w w3 from HB.out.trans ((show Below _ _ _ from ((Below.refl _ _).alloc (by omega) _)).trans (hb.mono (by first | omega | (simp <;> omega)))))
    have Ha : Hid (w3.rangeAt (w1.heap.size) 0 [.int .i64 a.x.re, .int .i64 a.x.im, .int .i64 a.x.den, .int .i64 a.y.re, .int .i64 a.y.im, .int .i64 a.y.den]) := rangeAt_below (World.rangeAt_alloc Ha.out _) hb (by first | omega | (simp; done) | (simp <;> omega))
    have Hb : Hid (w3.rangeAt (w1.heap.size + 1) 0 [.int .i64 b.x.re, .int .i64 b.x.im, .int .i64 b.x.den, .int .i64 b.y.re, .int .i64 b.y.im, .int .i64 b.y.den]) := rangeAt_below (World.rangeAt_alloc Hb.out _) hb (by first | omega | (simp; done) | (simp <;> omega))
    have Ho : Hid (w3.rangeAt w2.heap.size 0 [.int .i64 m.x.re, .int .i64 m.x.im, .int .i64 m.x.den, .int .i64 m.y.re, .int .i64 m.y.im, .int .i64 m.y.den]) := rangeAt_below (rangeAt_new _ _ _) hb (by first | omega | (simp; done) | (simp <;> omega))
    have hz3 := hb.size
    (try simp at hz3)
    clear hb
    have nA0 : w1.heap.size < w3.heap.size := by omega
    have nB0 : ¬ w1.heap.size = w3.heap.size := by omega
    have nC0 : ¬ w3.heap.size = w1.heap.size := by omega
    have nA1 : w1.heap.size + 1 < w3.heap.size := by omega
    have nB1 : ¬ w1.heap.size + 1 = w3.heap.size := by omega
    have nC1 : ¬ w3.heap.size = w1.heap.size + 1 := by omega
    have nA2 : w2.heap.size < w3.heap.size := by omega
    have nB2 : ¬ w2.heap.size = w3.heap.size := by omega
    have nC2 : ¬ w3.heap.size = w2.heap.size := by omega
    have zo_0 : w3.cell? ⟨w2.heap.size, 0, none⟩ = some (.int .i64 m.x.re) := by have := Ho.out 0 _ rfl; rwa [Nat.zero_add] at this
    have zo_1 : w3.cell? ⟨w2.heap.size, 1, none⟩ = some (.int .i64 m.x.im) := by have := Ho.out 1 _ rfl; rwa [Nat.zero_add] at this
    have zo_2 : w3.cell? ⟨w2.heap.size, 2, none⟩ = some (.int .i64 m.x.den) := by have := Ho.out 2 _ rfl; rwa [Nat.zero_add] at this
    have zo_3 : w3.cell? ⟨w2.heap.size, 3, none⟩ = some (.int .i64 m.y.re) := by have := Ho.out 3 _ rfl; rwa [Nat.zero_add] at this
    have zo_4 : w3.cell? ⟨w2.heap.size, 4, none⟩ = some (.int .i64 m.y.im) := by have := Ho.out 4 _ rfl; rwa [Nat.zero_add] at this
    have zo_5 : w3.cell? ⟨w2.heap.size, 5, none⟩ = some (.int .i64 m.y.den) := by have := Ho.out 5 _ rfl; rwa [Nat.zero_add] at this
    go_wp2_with (first | ((with_reducible refine wpList_load_mid ?kl91 26 ?kl9x ?kl92 (w1.heap.size + 1) 0 ?kl93 [.int .i64 b.x.re, .int .i64 b.x.im, .int .i64 b.x.den, .int .i64 b.y.re, .int .i64 b.y.im, .int .i64 b.y.den] ?kl9d ?kl94 ?kl95 ?kl96 ?kl97 ?kl98); (case kl92 => rfl); (case kl91 => rfl); (case kl93 => rfl); (case kl94 => (exact (World.rangeAt_alloc Hb.out _))); (case kl95 => exact Try.underlying26); (case kl96 => rfl); (case kl97 => kernel_rfl)) | ((with_reducible refine wpList_load_mid ?kl101 26 ?kl10x ?kl102 (w1.heap.size) 0 ?kl103 [.int .i64 a.x.re, .int .i64 a.x.im, .int .i64 a.x.den, .int .i64 a.y.re, .int .i64 a.y.im, .int .i64 a.y.den] ?kl10d ?kl104 ?kl105 ?kl106 ?kl107 ?kl108); (case kl102 => rfl); (case kl101 => rfl); (case kl103 => rfl); (case kl104 => (exact (World.rangeAt_alloc Ha.out _))); (case kl105 => exact Try.underlying26); (case kl106 => rfl); (case kl107 => kernel_rfl)))
    refine (ijadd b a _).mono ?_
    rintro e w4 ho
    rw [HG2.out] at ho
    obtain ⟨rfl, hb⟩ : e = .returned (.tuple #[.agg #[.int .i64 m.x.re, .int .i64 m.x.im, .int .i64 m.x.den, .int .i64 m.y.re, .int .i64 m.y.im, .int .i64 m.y.den], .bool true]) ∧ Below _ _ _ := ho.fn
    clear ho
    have HB := Lib.hid (show Below w.heap.size w w4 from HB.out.trans ((show Below _ _ _ from ((Below.refl _ _).alloc (by omega) _)).trans (hb.mono (by first | omega | (simp <;> omega)))))
    have Ha : Hid (w4.rangeAt (w1.heap.size) 0 [.int .i64 a.x.re, .int .i64 a.x.im, .int .i64 a.x.den, .int .i64 a.y.re, .int .i64 a.y.im, .int .i64 a.y.den]) := rangeAt_below (World.rangeAt_alloc Ha.out _) hb (by first | omega | (simp; done) | (simp <;> omega))
    have Hb : Hid (w4.rangeAt (w1.heap.size + 1) 0 [.int .i64 b.x.re, .int .i64 b.x.im, .int .i64 b.x.den, .int .i64 b.y.re, .int .i64 b.y.im, .int .i64 b.y.den]) := rangeAt_below (World.rangeAt_alloc Hb.out _) hb (by first | omega | (simp; done) | (simp <;> omega))
    have Ho : Hid (w4.rangeAt (w2.heap.size) 0 [.int .i64 m.x.re, .int .i64 m.x.im, .int .i64 m.x.den, .int .i64 m.y.re, .int .i64 m.y.im, .int .i64 m.y.den]) := rangeAt_below (World.rangeAt_alloc Ho.out _) hb (by first | omega | (simp; done) | (simp <;> omega))
    have Hq : Hid (w4.rangeAt w3.heap.size 0 [.int .i64 m.x.re, .int .i64 m.x.im, .int .i64 m.x.den, .int .i64 m.y.re, .int .i64 m.y.im, .int .i64 m.y.den]) := rangeAt_below (rangeAt_new _ _ _) hb (by first | omega | (simp; done) | (simp <;> omega))
    have hz4 := hb.size
    (try simp at hz4)
    clear hb
    have nA0 : w1.heap.size < w4.heap.size := by omega
    have nB0 : ¬ w1.heap.size = w4.heap.size := by omega
    have nC0 : ¬ w4.heap.size = w1.heap.size := by omega
    have nA1 : w1.heap.size + 1 < w4.heap.size := by omega
    have nB1 : ¬ w1.heap.size + 1 = w4.heap.size := by omega
    have nC1 : ¬ w4.heap.size = w1.heap.size + 1 := by omega
    have nA2 : w2.heap.size < w4.heap.size := by omega
    have nB2 : ¬ w2.heap.size = w4.heap.size := by omega
    have nC2 : ¬ w4.heap.size = w2.heap.size := by omega
    have nA3 : w3.heap.size < w4.heap.size := by omega
    have nB3 : ¬ w3.heap.size = w4.heap.size := by omega
    have nC3 : ¬ w4.heap.size = w3.heap.size := by omega
    go_wp2_with (first | ((with_reducible refine wpList_load_mid ?kl111 26 ?kl11x ?kl112 (w1.heap.size + 1) 0 ?kl113 [.int .i64 b.x.re, .int .i64 b.x.im, .int .i64 b.x.den, .int .i64 b.y.re, .int .i64 b.y.im, .int .i64 b.y.den] ?kl11d ?kl114 ?kl115 ?kl116 ?kl117 ?kl118); (case kl112 => rfl); (case kl111 => rfl); (case kl113 => rfl); (case kl114 => (exact (World.rangeAt_alloc Hb.out _))); (case kl115 => exact Try.underlying26); (case kl116 => rfl); (case kl117 => kernel_rfl)))
    refine (ijtim b fM1 _).mono ?_
    rintro e w5 ho
    rw [HM.out] at ho
    obtain ⟨rfl, hb⟩ : e = .returned (.tuple #[.agg #[.int .i64 n.x.re, .int .i64 n.x.im, .int .i64 n.x.den, .int .i64 n.y.re, .int .i64 n.y.im, .int .i64 n.y.den], .bool true]) ∧ Below _ _ _ := ho.fn
    clear ho
    have HB := Lib.hid (show Below w.heap.size w w5 from HB.out.trans ((show Below _ _ _ from ((Below.refl _ _).alloc (by omega) _)).trans (hb.mono (by first | omega | (simp <;> omega)))))
    have Ha : Hid (w5.rangeAt (w1.heap.size) 0 [.int .i64 a.x.re, .int .i64 a.x.im, .int .i64 a.x.den, .int .i64 a.y.re, .int .i64 a.y.im, .int .i64 a.y.den]) := rangeAt_below (World.rangeAt_alloc Ha.out _) hb (by first | omega | (simp; done) | (simp <;> omega))
    have Hb : Hid (w5.rangeAt (w1.heap.size + 1) 0 [.int .i64 b.x.re, .int .i64 b.x.im, .int .i64 b.x.den, .int .i64 b.y.re, .int .i64 b.y.im, .int .i64 b.y.den]) := rangeAt_below (World.rangeAt_alloc Hb.out _) hb (by first | omega | (simp; done) | (simp <;> omega))
    have Ho : Hid (w5.rangeAt (w2.heap.size) 0 [.int .i64 m.x.re, .int .i64 m.x.im, .int .i64 m.x.den, .int .i64 m.y.re, .int .i64 m.y.im, .int .i64 m.y.den]) := rangeAt_below (World.rangeAt_alloc Ho.out _) hb (by first | omega | (simp; done) | (simp <;> omega))
    have Hq : Hid (w5.rangeAt (w3.heap.size) 0 [.int .i64 m.x.re, .int .i64 m.x.im, .int .i64 m.x.den, .int .i64 m.y.re, .int .i64 m.y.im, .int .i64 m.y.den]) := rangeAt_below (World.rangeAt_alloc Hq.out _) hb (by first | omega | (simp; done) | (simp <;> omega))
    have Hx : Hid (w5.rangeAt w4.heap.size 0 [.int .i64 m.x.re, .int .i64 m.x.im, .int .i64 m.x.den, .int .i64 m.y.re, .int .i64 m.y.im, .int .i64 m.y.den]) := rangeAt_below (rangeAt_new _ _ _) hb (by first | omega | (simp; done) | (simp <;> omega))
    have hz5 := hb.size
    (try simp at hz5)
    clear hb
    have nA0 : w1.heap.size < w5.heap.size := by omega
    have nB0 : ¬ w1.heap.size = w5.heap.size := by omega
    have nC0 : ¬ w5.heap.size = w1.heap.size := by omega
    have nA1 : w1.heap.size + 1 < w5.heap.size := by omega
    have nB1 : ¬ w1.heap.size + 1 = w5.heap.size := by omega
    have nC1 : ¬ w5.heap.size = w1.heap.size + 1 := by omega
    have nA2 : w2.heap.size < w5.heap.size := by omega
    have nB2 : ¬ w2.heap.size = w5.heap.size := by omega
    have nC2 : ¬ w5.heap.size = w2.heap.size := by omega
    have nA3 : w3.heap.size < w5.heap.size := by omega
    have nB3 : ¬ w3.heap.size = w5.heap.size := by omega
    have nC3 : ¬ w5.heap.size = w3.heap.size := by omega
    have nA4 : w4.heap.size < w5.heap.size := by omega
    have nB4 : ¬ w4.heap.size = w5.heap.size := by omega
    have nC4 : ¬ w5.heap.size = w4.heap.size := by omega
    go_wp2_with (first | ((with_reducible refine wpList_load_mid ?kl121 26 ?kl12x ?kl122 (w1.heap.size) 0 ?kl123 [.int .i64 a.x.re, .int .i64 a.x.im, .int .i64 a.x.den, .int .i64 a.y.re, .int .i64 a.y.im, .int .i64 a.y.den] ?kl12d ?kl124 ?kl125 ?kl126 ?kl127 ?kl128); (case kl122 => rfl); (case kl121 => rfl); (case kl123 => rfl); (case kl124 => (exact (World.rangeAt_alloc Ha.out _))); (case kl125 => exact Try.underlying26); (case kl126 => rfl); (case kl127 => kernel_rfl)) | ((with_reducible refine wpList_load_mid ?kl131 26 ?kl13x ?kl132 (w5.heap.size) 0 ?kl133 [.int .i64 n.x.re, .int .i64 n.x.im, .int .i64 n.x.den, .int .i64 n.y.re, .int .i64 n.y.im, .int .i64 n.y.den] ?kl13d ?kl134 ?kl135 ?kl136 ?kl137 ?kl138); (case kl132 => rfl); (case kl131 => rfl); (case kl133 => rfl); (case kl134 => (exact (rangeAt_new _ _ _))); (case kl135 => exact Try.underlying26); (case kl136 => rfl); (case kl137 => kernel_rfl)))
    refine (ijadd a n _).mono ?_
    rintro e w6 ho
    rw [E1.out] at ho
    obtain ⟨rfl, hb⟩ : e = .returned (.tuple #[.agg #[.int .i64 L.x.re, .int .i64 L.x.im, .int .i64 L.x.den, .int .i64 L.y.re, .int .i64 L.y.im, .int .i64 L.y.den], .bool r1]) ∧ Below _ _ _ := ho.fn
    clear ho
    have HB := Lib.hid (show Below w.heap.size w w6 from HB.out.trans ((show Below _ _ _ from ((Below.refl _ _).alloc (by omega) _)).trans (hb.mono (by first | omega | (simp <;> omega)))))
    have Ha : Hid (w6.rangeAt (w1.heap.size) 0 [.int .i64 a.x.re, .int .i64 a.x.im, .int .i64 a.x.den, .int .i64 a.y.re, .int .i64 a.y.im, .int .i64 a.y.den]) := rangeAt_below (World.rangeAt_alloc Ha.out _) hb (by first | omega | (simp; done) | (simp <;> omega))
    have Hb : Hid (w6.rangeAt (w1.heap.size + 1) 0 [.int .i64 b.x.re, .int .i64 b.x.im, .int .i64 b.x.den, .int .i64 b.y.re, .int .i64 b.y.im, .int .i64 b.y.den]) := rangeAt_below (World.rangeAt_alloc Hb.out _) hb (by first | omega | (simp; done) | (simp <;> omega))
    have Ho : Hid (w6.rangeAt (w2.heap.size) 0 [.int .i64 m.x.re, .int .i64 m.x.im, .int .i64 m.x.den, .int .i64 m.y.re, .int .i64 m.y.im, .int .i64 m.y.den]) := rangeAt_below (World.rangeAt_alloc Ho.out _) hb (by first | omega | (simp; done) | (simp <;> omega))
    have Hq : Hid (w6.rangeAt (w3.heap.size) 0 [.int .i64 m.x.re, .int .i64 m.x.im, .int .i64 m.x.den, .int .i64 m.y.re, .int .i64 m.y.im, .int .i64 m.y.den]) := rangeAt_below (World.rangeAt_alloc Hq.out _) hb (by first | omega | (simp; done) | (simp <;> omega))
    have Hx : Hid (w6.rangeAt (w4.heap.size) 0 [.int .i64 m.x.re, .int .i64 m.x.im, .int .i64 m.x.den, .int .i64 m.y.re, .int .i64 m.y.im, .int .i64 m.y.den]) := rangeAt_below (World.rangeAt_alloc Hx.out _) hb (by first | omega | (simp; done) | (simp <;> omega))
    have Hmi : Hid (w6.rangeAt w5.heap.size 0 [.int .i64 n.x.re, .int .i64 n.x.im, .int .i64 n.x.den, .int .i64 n.y.re, .int .i64 n.y.im, .int .i64 n.y.den]) := rangeAt_below (rangeAt_new _ _ _) hb (by first | omega | (simp; done) | (simp <;> omega))
    have hz6 := hb.size
    (try simp at hz6)
    clear hb
    have nA0 : w1.heap.size < w6.heap.size := by omega
    have nB0 : ¬ w1.heap.size = w6.heap.size := by omega
    have nC0 : ¬ w6.heap.size = w1.heap.size := by omega
    have nA1 : w1.heap.size + 1 < w6.heap.size := by omega
    have nB1 : ¬ w1.heap.size + 1 = w6.heap.size := by omega
    have nC1 : ¬ w6.heap.size = w1.heap.size + 1 := by omega
    have nA2 : w2.heap.size < w6.heap.size := by omega
    have nB2 : ¬ w2.heap.size = w6.heap.size := by omega
    have nC2 : ¬ w6.heap.size = w2.heap.size := by omega
    have nA3 : w3.heap.size < w6.heap.size := by omega
    have nB3 : ¬ w3.heap.size = w6.heap.size := by omega
    have nC3 : ¬ w6.heap.size = w3.heap.size := by omega
    have nA4 : w4.heap.size < w6.heap.size := by omega
    have nB4 : ¬ w4.heap.size = w6.heap.size := by omega
    have nC4 : ¬ w6.heap.size = w4.heap.size := by omega
    have nA5 : w5.heap.size < w6.heap.size := by omega
    have nB5 : ¬ w5.heap.size = w6.heap.size := by omega
    have nC5 : ¬ w6.heap.size = w5.heap.size := by omega
    go_wp2_with (first | ((with_reducible refine wpList_load_mid ?kl141 26 ?kl14x ?kl142 (w2.heap.size) 0 ?kl143 [.int .i64 m.x.re, .int .i64 m.x.im, .int .i64 m.x.den, .int .i64 m.y.re, .int .i64 m.y.im, .int .i64 m.y.den] ?kl14d ?kl144 ?kl145 ?kl146 ?kl147 ?kl148); (case kl142 => rfl); (case kl141 => rfl); (case kl143 => rfl); (case kl144 => (exact (World.rangeAt_alloc Ho.out _))); (case kl145 => exact Try.underlying26); (case kl146 => rfl); (case kl147 => kernel_rfl)))
    refine (ijpow m _).mono ?_
    rintro e w7 ho
    rw [E2.out] at ho
    obtain ⟨rfl, hb⟩ : e = .returned (.tuple #[.agg #[.int .i64 U.re, .int .i64 U.im, .int .i64 U.den], .bool r2]) ∧ Below _ _ _ := ho.fn
    clear ho
    have HB := Lib.hid (show Below w.heap.size w w7 from HB.out.trans ((show Below _ _ _ from ((Below.refl _ _).alloc (by omega) _)).trans (hb.mono (by first | omega | (simp <;> omega)))))
    have Ha : Hid (w7.rangeAt (w1.heap.size) 0 [.int .i64 a.x.re, .int .i64 a.x.im, .int .i64 a.x.den, .int .i64 a.y.re, .int .i64 a.y.im, .int .i64 a.y.den]) := rangeAt_below (World.rangeAt_alloc Ha.out _) hb (by first | omega | (simp; done) | (simp <;> omega))
    have Hb : Hid (w7.rangeAt (w1.heap.size + 1) 0 [.int .i64 b.x.re, .int .i64 b.x.im, .int .i64 b.x.den, .int .i64 b.y.re, .int .i64 b.y.im, .int .i64 b.y.den]) := rangeAt_below (World.rangeAt_alloc Hb.out _) hb (by first | omega | (simp; done) | (simp <;> omega))
    have Ho : Hid (w7.rangeAt (w2.heap.size) 0 [.int .i64 m.x.re, .int .i64 m.x.im, .int .i64 m.x.den, .int .i64 m.y.re, .int .i64 m.y.im, .int .i64 m.y.den]) := rangeAt_below (World.rangeAt_alloc Ho.out _) hb (by first | omega | (simp; done) | (simp <;> omega))
    have Hq : Hid (w7.rangeAt (w3.heap.size) 0 [.int .i64 m.x.re, .int .i64 m.x.im, .int .i64 m.x.den, .int .i64 m.y.re, .int .i64 m.y.im, .int .i64 m.y.den]) := rangeAt_below (World.rangeAt_alloc Hq.out _) hb (by first | omega | (simp; done) | (simp <;> omega))
    have Hx : Hid (w7.rangeAt (w4.heap.size) 0 [.int .i64 m.x.re, .int .i64 m.x.im, .int .i64 m.x.den, .int .i64 m.y.re, .int .i64 m.y.im, .int .i64 m.y.den]) := rangeAt_below (World.rangeAt_alloc Hx.out _) hb (by first | omega | (simp; done) | (simp <;> omega))
    have Hmi : Hid (w7.rangeAt (w5.heap.size) 0 [.int .i64 n.x.re, .int .i64 n.x.im, .int .i64 n.x.den, .int .i64 n.y.re, .int .i64 n.y.im, .int .i64 n.y.den]) := rangeAt_below (World.rangeAt_alloc Hmi.out _) hb (by first | omega | (simp; done) | (simp <;> omega))
    have Hle : Hid (w7.rangeAt w6.heap.size 0 [.int .i64 L.x.re, .int .i64 L.x.im, .int .i64 L.x.den, .int .i64 L.y.re, .int .i64 L.y.im, .int .i64 L.y.den]) := rangeAt_below (rangeAt_new _ _ _) hb (by first | omega | (simp; done) | (simp <;> omega))
    have hz7 := hb.size
    (try simp at hz7)
    clear hb
    have nA0 : w1.heap.size < w7.heap.size := by omega
    have nB0 : ¬ w1.heap.size = w7.heap.size := by omega
    have nC0 : ¬ w7.heap.size = w1.heap.size := by omega
    have nA1 : w1.heap.size + 1 < w7.heap.size := by omega
    have nB1 : ¬ w1.heap.size + 1 = w7.heap.size := by omega
    have nC1 : ¬ w7.heap.size = w1.heap.size + 1 := by omega
    have nA2 : w2.heap.size < w7.heap.size := by omega
    have nB2 : ¬ w2.heap.size = w7.heap.size := by omega
    have nC2 : ¬ w7.heap.size = w2.heap.size := by omega
    have nA3 : w3.heap.size < w7.heap.size := by omega
    have nB3 : ¬ w3.heap.size = w7.heap.size := by omega
    have nC3 : ¬ w7.heap.size = w3.heap.size := by omega
    have nA4 : w4.heap.size < w7.heap.size := by omega
    have nB4 : ¬ w4.heap.size = w7.heap.size := by omega
    have nC4 : ¬ w7.heap.size = w4.heap.size := by omega
    have nA5 : w5.heap.size < w7.heap.size := by omega
    have nB5 : ¬ w5.heap.size = w7.heap.size := by omega
    have nC5 : ¬ w7.heap.size = w5.heap.size := by omega
    have nA6 : w6.heap.size < w7.heap.size := by omega
    have nB6 : ¬ w6.heap.size = w7.heap.size := by omega
    have nC6 : ¬ w7.heap.size = w6.heap.size := by omega
    go_wp2_with (first | ((with_reducible refine wpList_load_mid ?kl151 26 ?kl15x ?kl152 (w6.heap.size) 0 ?kl153 [.int .i64 L.x.re, .int .i64 L.x.im, .int .i64 L.x.den, .int .i64 L.y.re, .int .i64 L.y.im, .int .i64 L.y.den] ?kl15d ?kl154 ?kl155 ?kl156 ?kl157 ?kl158); (case kl152 => rfl); (case kl151 => rfl); (case kl153 => rfl); (case kl154 => (exact (World.rangeAt_alloc Hle.out _))); (case kl155 => exact Try.underlying26); (case kl156 => rfl); (case kl157 => kernel_rfl)))
    refine (ijpow L _).mono ?_
    rintro e w8 ho
    rw [E3.out] at ho
    obtain ⟨rfl, hb⟩ : e = .returned (.tuple #[.agg #[.int .i64 V.re, .int .i64 V.im, .int .i64 V.den], .bool r3]) ∧ Below _ _ _ := ho.fn
    clear ho
    have HB := Lib.hid (show Below w.heap.size w w8 from HB.out.trans ((show Below _ _ _ from ((Below.refl _ _).alloc (by omega) _)).trans (hb.mono (by first | omega | (simp <;> omega)))))
    have Ha : Hid (w8.rangeAt (w1.heap.size) 0 [.int .i64 a.x.re, .int .i64 a.x.im, .int .i64 a.x.den, .int .i64 a.y.re, .int .i64 a.y.im, .int .i64 a.y.den]) := rangeAt_below (World.rangeAt_alloc Ha.out _) hb (by first | omega | (simp; done) | (simp <;> omega))
    have Hb : Hid (w8.rangeAt (w1.heap.size + 1) 0 [.int .i64 b.x.re, .int .i64 b.x.im, .int .i64 b.x.den, .int .i64 b.y.re, .int .i64 b.y.im, .int .i64 b.y.den]) := rangeAt_below (World.rangeAt_alloc Hb.out _) hb (by first | omega | (simp; done) | (simp <;> omega))
    have Ho : Hid (w8.rangeAt (w2.heap.size) 0 [.int .i64 m.x.re, .int .i64 m.x.im, .int .i64 m.x.den, .int .i64 m.y.re, .int .i64 m.y.im, .int .i64 m.y.den]) := rangeAt_below (World.rangeAt_alloc Ho.out _) hb (by first | omega | (simp; done) | (simp <;> omega))
    have Hq : Hid (w8.rangeAt (w3.heap.size) 0 [.int .i64 m.x.re, .int .i64 m.x.im, .int .i64 m.x.den, .int .i64 m.y.re, .int .i64 m.y.im, .int .i64 m.y.den]) := rangeAt_below (World.rangeAt_alloc Hq.out _) hb (by first | omega | (simp; done) | (simp <;> omega))
    have Hx : Hid (w8.rangeAt (w4.heap.size) 0 [.int .i64 m.x.re, .int .i64 m.x.im, .int .i64 m.x.den, .int .i64 m.y.re, .int .i64 m.y.im, .int .i64 m.y.den]) := rangeAt_below (World.rangeAt_alloc Hx.out _) hb (by first | omega | (simp; done) | (simp <;> omega))
    have Hmi : Hid (w8.rangeAt (w5.heap.size) 0 [.int .i64 n.x.re, .int .i64 n.x.im, .int .i64 n.x.den, .int .i64 n.y.re, .int .i64 n.y.im, .int .i64 n.y.den]) := rangeAt_below (World.rangeAt_alloc Hmi.out _) hb (by first | omega | (simp; done) | (simp <;> omega))
    have Hle : Hid (w8.rangeAt (w6.heap.size) 0 [.int .i64 L.x.re, .int .i64 L.x.im, .int .i64 L.x.den, .int .i64 L.y.re, .int .i64 L.y.im, .int .i64 L.y.den]) := rangeAt_below (World.rangeAt_alloc Hle.out _) hb (by first | omega | (simp; done) | (simp <;> omega))
    have Hu : Hid (w8.rangeAt w7.heap.size 0 [.int .i64 U.re, .int .i64 U.im, .int .i64 U.den]) := rangeAt_below (rangeAt_new _ _ _) hb (by first | omega | (simp; done) | (simp <;> omega))
    have hz8 := hb.size
    (try simp at hz8)
    clear hb
    have nA0 : w1.heap.size < w8.heap.size := by omega
    have nB0 : ¬ w1.heap.size = w8.heap.size := by omega
    have nC0 : ¬ w8.heap.size = w1.heap.size := by omega
    have nA1 : w1.heap.size + 1 < w8.heap.size := by omega
    have nB1 : ¬ w1.heap.size + 1 = w8.heap.size := by omega
    have nC1 : ¬ w8.heap.size = w1.heap.size + 1 := by omega
    have nA2 : w2.heap.size < w8.heap.size := by omega
    have nB2 : ¬ w2.heap.size = w8.heap.size := by omega
    have nC2 : ¬ w8.heap.size = w2.heap.size := by omega
    have nA3 : w3.heap.size < w8.heap.size := by omega
    have nB3 : ¬ w3.heap.size = w8.heap.size := by omega
    have nC3 : ¬ w8.heap.size = w3.heap.size := by omega
    have nA4 : w4.heap.size < w8.heap.size := by omega
    have nB4 : ¬ w4.heap.size = w8.heap.size := by omega
    have nC4 : ¬ w8.heap.size = w4.heap.size := by omega
    have nA5 : w5.heap.size < w8.heap.size := by omega
    have nB5 : ¬ w5.heap.size = w8.heap.size := by omega
    have nC5 : ¬ w8.heap.size = w5.heap.size := by omega
    have nA6 : w6.heap.size < w8.heap.size := by omega
    have nB6 : ¬ w6.heap.size = w8.heap.size := by omega
    have nC6 : ¬ w8.heap.size = w6.heap.size := by omega
    have nA7 : w7.heap.size < w8.heap.size := by omega
    have nB7 : ¬ w7.heap.size = w8.heap.size := by omega
    have nC7 : ¬ w8.heap.size = w7.heap.size := by omega
    go_wp2_with (first | ((with_reducible refine wpList_load_mid ?kl161 26 ?kl16x ?kl162 (w1.heap.size) 0 ?kl163 [.int .i64 a.x.re, .int .i64 a.x.im, .int .i64 a.x.den, .int .i64 a.y.re, .int .i64 a.y.im, .int .i64 a.y.den] ?kl16d ?kl164 ?kl165 ?kl166 ?kl167 ?kl168); (case kl162 => rfl); (case kl161 => rfl); (case kl163 => rfl); (case kl164 => (exact (World.rangeAt_alloc Ha.out _))); (case kl165 => exact Try.underlying26); (case kl166 => rfl); (case kl167 => kernel_rfl)))
    refine (ijpow a _).mono ?_
    rintro e w9 ho
    rw [E4.out] at ho
    obtain ⟨rfl, hb⟩ : e = .returned (.tuple #[.agg #[.int .i64 W.re, .int .i64 W.im, .int .i64 W.den], .bool r4]) ∧ Below _ _ _ := ho.fn
    clear ho
    have HB := Lib.hid (show Below w.heap.size w w9 from HB.out.trans ((show Below _ _ _ from ((Below.refl _ _).alloc (by omega) _)).trans (hb.mono (by first | omega | (simp <;> omega)))))
    have Ha : Hid (w9.rangeAt (w1.heap.size) 0 [.int .i64 a.x.re, .int .i64 a.x.im, .int .i64 a.x.den, .int .i64 a.y.re, .int .i64 a.y.im, .int .i64 a.y.den]) := rangeAt_below (World.rangeAt_alloc Ha.out _) hb (by first | omega | (simp; done) | (simp <;> omega))
    have Hb : Hid (w9.rangeAt (w1.heap.size + 1) 0 [.int .i64 b.x.re, .int .i64 b.x.im, .int .i64 b.x.den, .int .i64 b.y.re, .int .i64 b.y.im, .int .i64 b.y.den]) := rangeAt_below (World.rangeAt_alloc Hb.out _) hb (by first | omega | (simp; done) | (simp <;> omega))
    have Ho : Hid (w9.rangeAt (w2.heap.size) 0 [.int .i64 m.x.re, .int .i64 m.x.im, .int .i64 m.x.den, .int .i64 m.y.re, .int .i64 m.y.im, .int .i64 m.y.den]) := rangeAt_below (World.rangeAt_alloc Ho.out _) hb (by first | omega | (simp; done) | (simp <;> omega))
    have Hq : Hid (w9.rangeAt (w3.heap.size) 0 [.int .i64 m.x.re, .int .i64 m.x.im, .int .i64 m.x.den, .int .i64 m.y.re, .int .i64 m.y.im, .int .i64 m.y.den]) := rangeAt_below (World.rangeAt_alloc Hq.out _) hb (by first | omega | (simp; done) | (simp <;> omega))
    have Hx : Hid (w9.rangeAt (w4.heap.size) 0 [.int .i64 m.x.re, .int .i64 m.x.im, .int .i64 m.x.den, .int .i64 m.y.re, .int .i64 m.y.im, .int .i64 m.y.den]) := rangeAt_below (World.rangeAt_alloc Hx.out _) hb (by first | omega | (simp; done) | (simp <;> omega))
    have Hmi : Hid (w9.rangeAt (w5.heap.size) 0 [.int .i64 n.x.re, .int .i64 n.x.im, .int .i64 n.x.den, .int .i64 n.y.re, .int .i64 n.y.im, .int .i64 n.y.den]) := rangeAt_below (World.rangeAt_alloc Hmi.out _) hb (by first | omega | (simp; done) | (simp <;> omega))
    have Hle : Hid (w9.rangeAt (w6.heap.size) 0 [.int .i64 L.x.re, .int .i64 L.x.im, .int .i64 L.x.den, .int .i64 L.y.re, .int .i64 L.y.im, .int .i64 L.y.den]) := rangeAt_below (World.rangeAt_alloc Hle.out _) hb (by first | omega | (simp; done) | (simp <;> omega))
    have Hu : Hid (w9.rangeAt (w7.heap.size) 0 [.int .i64 U.re, .int .i64 U.im, .int .i64 U.den]) := rangeAt_below (World.rangeAt_alloc Hu.out _) hb (by first | omega | (simp; done) | (simp <;> omega))
    have Hv : Hid (w9.rangeAt w8.heap.size 0 [.int .i64 V.re, .int .i64 V.im, .int .i64 V.den]) := rangeAt_below (rangeAt_new _ _ _) hb (by first | omega | (simp; done) | (simp <;> omega))
    have hz9 := hb.size
    (try simp at hz9)
    clear hb
    have nA0 : w1.heap.size < w9.heap.size := by omega
    have nB0 : ¬ w1.heap.size = w9.heap.size := by omega
    have nC0 : ¬ w9.heap.size = w1.heap.size := by omega
    have nA1 : w1.heap.size + 1 < w9.heap.size := by omega
    have nB1 : ¬ w1.heap.size + 1 = w9.heap.size := by omega
    have nC1 : ¬ w9.heap.size = w1.heap.size + 1 := by omega
    have nA2 : w2.heap.size < w9.heap.size := by omega
    have nB2 : ¬ w2.heap.size = w9.heap.size := by omega
    have nC2 : ¬ w9.heap.size = w2.heap.size := by omega
    have nA3 : w3.heap.size < w9.heap.size := by omega
    have nB3 : ¬ w3.heap.size = w9.heap.size := by omega
    have nC3 : ¬ w9.heap.size = w3.heap.size := by omega
    have nA4 : w4.heap.size < w9.heap.size := by omega
    have nB4 : ¬ w4.heap.size = w9.heap.size := by omega
    have nC4 : ¬ w9.heap.size = w4.heap.size := by omega
    have nA5 : w5.heap.size < w9.heap.size := by omega
    have nB5 : ¬ w5.heap.size = w9.heap.size := by omega
    have nC5 : ¬ w9.heap.size = w5.heap.size := by omega
    have nA6 : w6.heap.size < w9.heap.size := by omega
    have nB6 : ¬ w6.heap.size = w9.heap.size := by omega
    have nC6 : ¬ w9.heap.size = w6.heap.size := by omega
    have nA7 : w7.heap.size < w9.heap.size := by omega
    have nB7 : ¬ w7.heap.size = w9.heap.size := by omega
    have nC7 : ¬ w9.heap.size = w7.heap.size := by omega
    have nA8 : w8.heap.size < w9.heap.size := by omega
    have nB8 : ¬ w8.heap.size = w9.heap.size := by omega
    have nC8 : ¬ w9.heap.size = w8.heap.size := by omega
    go_wp2_with (first | ((with_reducible refine wpList_load_mid ?kl171 26 ?kl17x ?kl172 (w1.heap.size + 1) 0 ?kl173 [.int .i64 b.x.re, .int .i64 b.x.im, .int .i64 b.x.den, .int .i64 b.y.re, .int .i64 b.y.im, .int .i64 b.y.den] ?kl17d ?kl174 ?kl175 ?kl176 ?kl177 ?kl178); (case kl172 => rfl); (case kl171 => rfl); (case kl173 => rfl); (case kl174 => (exact (World.rangeAt_alloc Hb.out _))); (case kl175 => exact Try.underlying26); (case kl176 => rfl); (case kl177 => kernel_rfl)))
    refine (ijpow b _).mono ?_
    rintro e w10 ho
    rw [E5.out] at ho
    obtain ⟨rfl, hb⟩ : e = .returned (.tuple #[.agg #[.int .i64 Y.re, .int .i64 Y.im, .int .i64 Y.den], .bool r5]) ∧ Below _ _ _ := ho.fn
    clear ho
    have HB := Lib.hid (show Below w.heap.size w w10 from HB.out.trans ((show Below _ _ _ from ((Below.refl _ _).alloc (by omega) _)).trans (hb.mono (by first | omega | (simp <;> omega)))))
    have Ha : Hid (w10.rangeAt (w1.heap.size) 0 [.int .i64 a.x.re, .int .i64 a.x.im, .int .i64 a.x.den, .int .i64 a.y.re, .int .i64 a.y.im, .int .i64 a.y.den]) := rangeAt_below (World.rangeAt_alloc Ha.out _) hb (by first | omega | (simp; done) | (simp <;> omega))
    have Hb : Hid (w10.rangeAt (w1.heap.size + 1) 0 [.int .i64 b.x.re, .int .i64 b.x.im, .int .i64 b.x.den, .int .i64 b.y.re, .int .i64 b.y.im, .int .i64 b.y.den]) := rangeAt_below (World.rangeAt_alloc Hb.out _) hb (by first | omega | (simp; done) | (simp <;> omega))
    have Ho : Hid (w10.rangeAt (w2.heap.size) 0 [.int .i64 m.x.re, .int .i64 m.x.im, .int .i64 m.x.den, .int .i64 m.y.re, .int .i64 m.y.im, .int .i64 m.y.den]) := rangeAt_below (World.rangeAt_alloc Ho.out _) hb (by first | omega | (simp; done) | (simp <;> omega))
    have Hq : Hid (w10.rangeAt (w3.heap.size) 0 [.int .i64 m.x.re, .int .i64 m.x.im, .int .i64 m.x.den, .int .i64 m.y.re, .int .i64 m.y.im, .int .i64 m.y.den]) := rangeAt_below (World.rangeAt_alloc Hq.out _) hb (by first | omega | (simp; done) | (simp <;> omega))
    have Hx : Hid (w10.rangeAt (w4.heap.size) 0 [.int .i64 m.x.re, .int .i64 m.x.im, .int .i64 m.x.den, .int .i64 m.y.re, .int .i64 m.y.im, .int .i64 m.y.den]) := rangeAt_below (World.rangeAt_alloc Hx.out _) hb (by first | omega | (simp; done) | (simp <;> omega))
    have Hmi : Hid (w10.rangeAt (w5.heap.size) 0 [.int .i64 n.x.re, .int .i64 n.x.im, .int .i64 n.x.den, .int .i64 n.y.re, .int .i64 n.y.im, .int .i64 n.y.den]) := rangeAt_below (World.rangeAt_alloc Hmi.out _) hb (by first | omega | (simp; done) | (simp <;> omega))
    have Hle : Hid (w10.rangeAt (w6.heap.size) 0 [.int .i64 L.x.re, .int .i64 L.x.im, .int .i64 L.x.den, .int .i64 L.y.re, .int .i64 L.y.im, .int .i64 L.y.den]) := rangeAt_below (World.rangeAt_alloc Hle.out _) hb (by first | omega | (simp; done) | (simp <;> omega))
    have Hu : Hid (w10.rangeAt (w7.heap.size) 0 [.int .i64 U.re, .int .i64 U.im, .int .i64 U.den]) := rangeAt_below (World.rangeAt_alloc Hu.out _) hb (by first | omega | (simp; done) | (simp <;> omega))
    have Hv : Hid (w10.rangeAt (w8.heap.size) 0 [.int .i64 V.re, .int .i64 V.im, .int .i64 V.den]) := rangeAt_below (World.rangeAt_alloc Hv.out _) hb (by first | omega | (simp; done) | (simp <;> omega))
    have Hww : Hid (w10.rangeAt w9.heap.size 0 [.int .i64 W.re, .int .i64 W.im, .int .i64 W.den]) := rangeAt_below (rangeAt_new _ _ _) hb (by first | omega | (simp; done) | (simp <;> omega))
    have hz10 := hb.size
    (try simp at hz10)
    clear hb
    have nA0 : w1.heap.size < w10.heap.size := by omega
    have nB0 : ¬ w1.heap.size = w10.heap.size := by omega
    have nC0 : ¬ w10.heap.size = w1.heap.size := by omega
    have nA1 : w1.heap.size + 1 < w10.heap.size := by omega
    have nB1 : ¬ w1.heap.size + 1 = w10.heap.size := by omega
    have nC1 : ¬ w10.heap.size = w1.heap.size + 1 := by omega
    have nA2 : w2.heap.size < w10.heap.size := by omega
    have nB2 : ¬ w2.heap.size = w10.heap.size := by omega
    have nC2 : ¬ w10.heap.size = w2.heap.size := by omega
    have nA3 : w3.heap.size < w10.heap.size := by omega
    have nB3 : ¬ w3.heap.size = w10.heap.size := by omega
    have nC3 : ¬ w10.heap.size = w3.heap.size := by omega
    have nA4 : w4.heap.size < w10.heap.size := by omega
    have nB4 : ¬ w4.heap.size = w10.heap.size := by omega
    have nC4 : ¬ w10.heap.size = w4.heap.size := by omega
    have nA5 : w5.heap.size < w10.heap.size := by omega
    have nB5 : ¬ w5.heap.size = w10.heap.size := by omega
    have nC5 : ¬ w10.heap.size = w5.heap.size := by omega
    have nA6 : w6.heap.size < w10.heap.size := by omega
    have nB6 : ¬ w6.heap.size = w10.heap.size := by omega
    have nC6 : ¬ w10.heap.size = w6.heap.size := by omega
    have nA7 : w7.heap.size < w10.heap.size := by omega
    have nB7 : ¬ w7.heap.size = w10.heap.size := by omega
    have nC7 : ¬ w10.heap.size = w7.heap.size := by omega
    have nA8 : w8.heap.size < w10.heap.size := by omega
    have nB8 : ¬ w8.heap.size = w10.heap.size := by omega
    have nC8 : ¬ w10.heap.size = w8.heap.size := by omega
    have nA9 : w9.heap.size < w10.heap.size := by omega
    have nB9 : ¬ w9.heap.size = w10.heap.size := by omega
    have nC9 : ¬ w10.heap.size = w9.heap.size := by omega
    have zww_0 : w10.cell? ⟨w9.heap.size, 0, none⟩ = some (.int .i64 W.re) := by have := Hww.out 0 _ rfl; rwa [Nat.zero_add] at this
    have zww_1 : w10.cell? ⟨w9.heap.size, 1, none⟩ = some (.int .i64 W.im) := by have := Hww.out 1 _ rfl; rwa [Nat.zero_add] at this
    have zww_2 : w10.cell? ⟨w9.heap.size, 2, none⟩ = some (.int .i64 W.den) := by have := Hww.out 2 _ rfl; rwa [Nat.zero_add] at this
    go_wp2_with (first | ((with_reducible refine wpList_load_mid ?kl181 24 ?kl18x ?kl182 (w9.heap.size) 0 ?kl183 [.int .i64 W.re, .int .i64 W.im, .int .i64 W.den] ?kl18d ?kl184 ?kl185 ?kl186 ?kl187 ?kl188); (case kl182 => rfl); (case kl181 => rfl); (case kl183 => rfl); (case kl184 => (exact (World.rangeAt_alloc Hww.out _))); (case kl185 => exact Try.underlying24); (case kl186 => rfl); (case kl187 => kernel_rfl)) | ((with_reducible refine wpList_load_mid ?kl191 24 ?kl19x ?kl192 (w10.heap.size) 0 ?kl193 [.int .i64 Y.re, .int .i64 Y.im, .int .i64 Y.den] ?kl19d ?kl194 ?kl195 ?kl196 ?kl197 ?kl198); (case kl192 => rfl); (case kl191 => rfl); (case kl193 => rfl); (case kl194 => (exact (rangeAt_new _ _ _))); (case kl195 => exact Try.underlying24); (case kl196 => rfl); (case kl197 => kernel_rfl)))
    refine (add_fr W Y _).mono ?_
    rintro e w11 ho
    rw [E6.out] at ho
    obtain ⟨rfl, hb⟩ : e = .returned (.tuple #[.agg #[.int .i64 B.re, .int .i64 B.im, .int .i64 B.den], .bool r6]) ∧ Below _ _ _ := ho.fn
    clear ho
    have HB := Lib.hid (show Below w.heap.size w w11 from HB.out.trans ((show Below _ _ _ from ((Below.refl _ _).alloc (by omega) _)).trans (hb.mono (by first | omega | (simp <;> omega)))))
    have Ha : Hid (w11.rangeAt (w1.heap.size) 0 [.int .i64 a.x.re, .int .i64 a.x.im, .int .i64 a.x.den, .int .i64 a.y.re, .int .i64 a.y.im, .int .i64 a.y.den]) := rangeAt_below (World.rangeAt_alloc Ha.out _) hb (by first | omega | (simp; done) | (simp <;> omega))
    have Hb : Hid (w11.rangeAt (w1.heap.size + 1) 0 [.int .i64 b.x.re, .int .i64 b.x.im, .int .i64 b.x.den, .int .i64 b.y.re, .int .i64 b.y.im, .int .i64 b.y.den]) := rangeAt_below (World.rangeAt_alloc Hb.out _) hb (by first | omega | (simp; done) | (simp <;> omega))
    have Ho : Hid (w11.rangeAt (w2.heap.size) 0 [.int .i64 m.x.re, .int .i64 m.x.im, .int .i64 m.x.den, .int .i64 m.y.re, .int .i64 m.y.im, .int .i64 m.y.den]) := rangeAt_below (World.rangeAt_alloc Ho.out _) hb (by first | omega | (simp; done) | (simp <;> omega))
    have Hq : Hid (w11.rangeAt (w3.heap.size) 0 [.int .i64 m.x.re, .int .i64 m.x.im, .int .i64 m.x.den, .int .i64 m.y.re, .int .i64 m.y.im, .int .i64 m.y.den]) := rangeAt_below (World.rangeAt_alloc Hq.out _) hb (by first | omega | (simp; done) | (simp <;> omega))
    have Hx : Hid (w11.rangeAt (w4.heap.size) 0 [.int .i64 m.x.re, .int .i64 m.x.im, .int .i64 m.x.den, .int .i64 m.y.re, .int .i64 m.y.im, .int .i64 m.y.den]) := rangeAt_below (World.rangeAt_alloc Hx.out _) hb (by first | omega | (simp; done) | (simp <;> omega))
    have Hmi : Hid (w11.rangeAt (w5.heap.size) 0 [.int .i64 n.x.re, .int .i64 n.x.im, .int .i64 n.x.den, .int .i64 n.y.re, .int .i64 n.y.im, .int .i64 n.y.den]) := rangeAt_below (World.rangeAt_alloc Hmi.out _) hb (by first | omega | (simp; done) | (simp <;> omega))
    have Hle : Hid (w11.rangeAt (w6.heap.size) 0 [.int .i64 L.x.re, .int .i64 L.x.im, .int .i64 L.x.den, .int .i64 L.y.re, .int .i64 L.y.im, .int .i64 L.y.den]) := rangeAt_below (World.rangeAt_alloc Hle.out _) hb (by first | omega | (simp; done) | (simp <;> omega))
    have Hu : Hid (w11.rangeAt (w7.heap.size) 0 [.int .i64 U.re, .int .i64 U.im, .int .i64 U.den]) := rangeAt_below (World.rangeAt_alloc Hu.out _) hb (by first | omega | (simp; done) | (simp <;> omega))
    have Hv : Hid (w11.rangeAt (w8.heap.size) 0 [.int .i64 V.re, .int .i64 V.im, .int .i64 V.den]) := rangeAt_below (World.rangeAt_alloc Hv.out _) hb (by first | omega | (simp; done) | (simp <;> omega))
    have Hww : Hid (w11.rangeAt (w9.heap.size) 0 [.int .i64 W.re, .int .i64 W.im, .int .i64 W.den]) := rangeAt_below (World.rangeAt_alloc Hww.out _) hb (by first | omega | (simp; done) | (simp <;> omega))
    have Hzz : Hid (w11.rangeAt w10.heap.size 0 [.int .i64 Y.re, .int .i64 Y.im, .int .i64 Y.den]) := rangeAt_below (rangeAt_new _ _ _) hb (by first | omega | (simp; done) | (simp <;> omega))
    have hz11 := hb.size
    (try simp at hz11)
    clear hb
    have nA0 : w1.heap.size < w11.heap.size := by omega
    have nB0 : ¬ w1.heap.size = w11.heap.size := by omega
    have nC0 : ¬ w11.heap.size = w1.heap.size := by omega
    have nA1 : w1.heap.size + 1 < w11.heap.size := by omega
    have nB1 : ¬ w1.heap.size + 1 = w11.heap.size := by omega
    have nC1 : ¬ w11.heap.size = w1.heap.size + 1 := by omega
    have nA2 : w2.heap.size < w11.heap.size := by omega
    have nB2 : ¬ w2.heap.size = w11.heap.size := by omega
    have nC2 : ¬ w11.heap.size = w2.heap.size := by omega
    have nA3 : w3.heap.size < w11.heap.size := by omega
    have nB3 : ¬ w3.heap.size = w11.heap.size := by omega
    have nC3 : ¬ w11.heap.size = w3.heap.size := by omega
    have nA4 : w4.heap.size < w11.heap.size := by omega
    have nB4 : ¬ w4.heap.size = w11.heap.size := by omega
    have nC4 : ¬ w11.heap.size = w4.heap.size := by omega
    have nA5 : w5.heap.size < w11.heap.size := by omega
    have nB5 : ¬ w5.heap.size = w11.heap.size := by omega
    have nC5 : ¬ w11.heap.size = w5.heap.size := by omega
    have nA6 : w6.heap.size < w11.heap.size := by omega
    have nB6 : ¬ w6.heap.size = w11.heap.size := by omega
    have nC6 : ¬ w11.heap.size = w6.heap.size := by omega
    have nA7 : w7.heap.size < w11.heap.size := by omega
    have nB7 : ¬ w7.heap.size = w11.heap.size := by omega
    have nC7 : ¬ w11.heap.size = w7.heap.size := by omega
    have nA8 : w8.heap.size < w11.heap.size := by omega
    have nB8 : ¬ w8.heap.size = w11.heap.size := by omega
    have nC8 : ¬ w11.heap.size = w8.heap.size := by omega
    have nA9 : w9.heap.size < w11.heap.size := by omega
    have nB9 : ¬ w9.heap.size = w11.heap.size := by omega
    have nC9 : ¬ w11.heap.size = w9.heap.size := by omega
    have nA10 : w10.heap.size < w11.heap.size := by omega
    have nB10 : ¬ w10.heap.size = w11.heap.size := by omega
    have nC10 : ¬ w11.heap.size = w10.heap.size := by omega
    go_wp2_with (first | ((with_reducible refine wpList_load_mid ?kl201 24 ?kl20x ?kl202 (w11.heap.size) 0 ?kl203 [.int .i64 B.re, .int .i64 B.im, .int .i64 B.den] ?kl20d ?kl204 ?kl205 ?kl206 ?kl207 ?kl208); (case kl202 => rfl); (case kl201 => rfl); (case kl203 => rfl); (case kl204 => (exact (rangeAt_new _ _ _))); (case kl205 => exact Try.underlying24); (case kl206 => rfl); (case kl207 => kernel_rfl)) | ((with_reducible refine wpList_load_mid ?kl211 24 ?kl21x ?kl212 (w11.heap.size) 0 ?kl213 [.int .i64 B.re, .int .i64 B.im, .int .i64 B.den] ?kl21d ?kl214 ?kl215 ?kl216 ?kl217 ?kl218); (case kl212 => rfl); (case kl211 => rfl); (case kl213 => rfl); (case kl214 => (exact (rangeAt_new _ _ _))); (case kl215 => exact Try.underlying24); (case kl216 => rfl); (case kl217 => kernel_rfl)))
    refine (add_fr B B _).mono ?_
    rintro e w12 ho
    rw [E7.out] at ho
    obtain ⟨rfl, hb⟩ : e = .returned (.tuple #[.agg #[.int .i64 T.re, .int .i64 T.im, .int .i64 T.den], .bool r7]) ∧ Below _ _ _ := ho.fn
    clear ho
    have HB := Lib.hid (show Below w.heap.size w w12 from HB.out.trans ((show Below _ _ _ from ((Below.refl _ _).alloc (by omega) _)).trans (hb.mono (by first | omega | (simp <;> omega)))))
    have Ha : Hid (w12.rangeAt (w1.heap.size) 0 [.int .i64 a.x.re, .int .i64 a.x.im, .int .i64 a.x.den, .int .i64 a.y.re, .int .i64 a.y.im, .int .i64 a.y.den]) := rangeAt_below (World.rangeAt_alloc Ha.out _) hb (by first | omega | (simp; done) | (simp <;> omega))
    have Hb : Hid (w12.rangeAt (w1.heap.size + 1) 0 [.int .i64 b.x.re, .int .i64 b.x.im, .int .i64 b.x.den, .int .i64 b.y.re, .int .i64 b.y.im, .int .i64 b.y.den]) := rangeAt_below (World.rangeAt_alloc Hb.out _) hb (by first | omega | (simp; done) | (simp <;> omega))
    have Ho : Hid (w12.rangeAt (w2.heap.size) 0 [.int .i64 m.x.re, .int .i64 m.x.im, .int .i64 m.x.den, .int .i64 m.y.re, .int .i64 m.y.im, .int .i64 m.y.den]) := rangeAt_below (World.rangeAt_alloc Ho.out _) hb (by first | omega | (simp; done) | (simp <;> omega))
    have Hq : Hid (w12.rangeAt (w3.heap.size) 0 [.int .i64 m.x.re, .int .i64 m.x.im, .int .i64 m.x.den, .int .i64 m.y.re, .int .i64 m.y.im, .int .i64 m.y.den]) := rangeAt_below (World.rangeAt_alloc Hq.out _) hb (by first | omega | (simp; done) | (simp <;> omega))
    have Hx : Hid (w12.rangeAt (w4.heap.size) 0 [.int .i64 m.x.re, .int .i64 m.x.im, .int .i64 m.x.den, .int .i64 m.y.re, .int .i64 m.y.im, .int .i64 m.y.den]) := rangeAt_below (World.rangeAt_alloc Hx.out _) hb (by first | omega | (simp; done) | (simp <;> omega))
    have Hmi : Hid (w12.rangeAt (w5.heap.size) 0 [.int .i64 n.x.re, .int .i64 n.x.im, .int .i64 n.x.den, .int .i64 n.y.re, .int .i64 n.y.im, .int .i64 n.y.den]) := rangeAt_below (World.rangeAt_alloc Hmi.out _) hb (by first | omega | (simp; done) | (simp <;> omega))
    have Hle : Hid (w12.rangeAt (w6.heap.size) 0 [.int .i64 L.x.re, .int .i64 L.x.im, .int .i64 L.x.den, .int .i64 L.y.re, .int .i64 L.y.im, .int .i64 L.y.den]) := rangeAt_below (World.rangeAt_alloc Hle.out _) hb (by first | omega | (simp; done) | (simp <;> omega))
    have Hu : Hid (w12.rangeAt (w7.heap.size) 0 [.int .i64 U.re, .int .i64 U.im, .int .i64 U.den]) := rangeAt_below (World.rangeAt_alloc Hu.out _) hb (by first | omega | (simp; done) | (simp <;> omega))
    have Hv : Hid (w12.rangeAt (w8.heap.size) 0 [.int .i64 V.re, .int .i64 V.im, .int .i64 V.den]) := rangeAt_below (World.rangeAt_alloc Hv.out _) hb (by first | omega | (simp; done) | (simp <;> omega))
    have Hww : Hid (w12.rangeAt (w9.heap.size) 0 [.int .i64 W.re, .int .i64 W.im, .int .i64 W.den]) := rangeAt_below (World.rangeAt_alloc Hww.out _) hb (by first | omega | (simp; done) | (simp <;> omega))
    have Hzz : Hid (w12.rangeAt (w10.heap.size) 0 [.int .i64 Y.re, .int .i64 Y.im, .int .i64 Y.den]) := rangeAt_below (World.rangeAt_alloc Hzz.out _) hb (by first | omega | (simp; done) | (simp <;> omega))
    have Hbo : Hid (w12.rangeAt w11.heap.size 0 [.int .i64 B.re, .int .i64 B.im, .int .i64 B.den]) := rangeAt_below (rangeAt_new _ _ _) hb (by first | omega | (simp; done) | (simp <;> omega))
    have hz12 := hb.size
    (try simp at hz12)
    clear hb
    have nA0 : w1.heap.size < w12.heap.size := by omega
    have nB0 : ¬ w1.heap.size = w12.heap.size := by omega
    have nC0 : ¬ w12.heap.size = w1.heap.size := by omega
    have nA1 : w1.heap.size + 1 < w12.heap.size := by omega
    have nB1 : ¬ w1.heap.size + 1 = w12.heap.size := by omega
    have nC1 : ¬ w12.heap.size = w1.heap.size + 1 := by omega
    have nA2 : w2.heap.size < w12.heap.size := by omega
    have nB2 : ¬ w2.heap.size = w12.heap.size := by omega
    have nC2 : ¬ w12.heap.size = w2.heap.size := by omega
    have nA3 : w3.heap.size < w12.heap.size := by omega
    have nB3 : ¬ w3.heap.size = w12.heap.size := by omega
    have nC3 : ¬ w12.heap.size = w3.heap.size := by omega
    have nA4 : w4.heap.size < w12.heap.size := by omega
    have nB4 : ¬ w4.heap.size = w12.heap.size := by omega
    have nC4 : ¬ w12.heap.size = w4.heap.size := by omega
    have nA5 : w5.heap.size < w12.heap.size := by omega
    have nB5 : ¬ w5.heap.size = w12.heap.size := by omega
    have nC5 : ¬ w12.heap.size = w5.heap.size := by omega
    have nA6 : w6.heap.size < w12.heap.size := by omega
    have nB6 : ¬ w6.heap.size = w12.heap.size := by omega
    have nC6 : ¬ w12.heap.size = w6.heap.size := by omega
    have nA7 : w7.heap.size < w12.heap.size := by omega
    have nB7 : ¬ w7.heap.size = w12.heap.size := by omega
    have nC7 : ¬ w12.heap.size = w7.heap.size := by omega
    have nA8 : w8.heap.size < w12.heap.size := by omega
    have nB8 : ¬ w8.heap.size = w12.heap.size := by omega
    have nC8 : ¬ w12.heap.size = w8.heap.size := by omega
    have nA9 : w9.heap.size < w12.heap.size := by omega
    have nB9 : ¬ w9.heap.size = w12.heap.size := by omega
    have nC9 : ¬ w12.heap.size = w9.heap.size := by omega
    have nA10 : w10.heap.size < w12.heap.size := by omega
    have nB10 : ¬ w10.heap.size = w12.heap.size := by omega
    have nC10 : ¬ w12.heap.size = w10.heap.size := by omega
    have nA11 : w11.heap.size < w12.heap.size := by omega
    have nB11 : ¬ w11.heap.size = w12.heap.size := by omega
    have nC11 : ¬ w12.heap.size = w11.heap.size := by omega
    have zu_0 : w12.cell? ⟨w7.heap.size, 0, none⟩ = some (.int .i64 U.re) := by have := Hu.out 0 _ rfl; rwa [Nat.zero_add] at this
    have zu_1 : w12.cell? ⟨w7.heap.size, 1, none⟩ = some (.int .i64 U.im) := by have := Hu.out 1 _ rfl; rwa [Nat.zero_add] at this
    have zu_2 : w12.cell? ⟨w7.heap.size, 2, none⟩ = some (.int .i64 U.den) := by have := Hu.out 2 _ rfl; rwa [Nat.zero_add] at this
    have zv_0 : w12.cell? ⟨w8.heap.size, 0, none⟩ = some (.int .i64 V.re) := by have := Hv.out 0 _ rfl; rwa [Nat.zero_add] at this
    have zv_1 : w12.cell? ⟨w8.heap.size, 1, none⟩ = some (.int .i64 V.im) := by have := Hv.out 1 _ rfl; rwa [Nat.zero_add] at this
    have zv_2 : w12.cell? ⟨w8.heap.size, 2, none⟩ = some (.int .i64 V.den) := by have := Hv.out 2 _ rfl; rwa [Nat.zero_add] at this
    go_wp2_with (first | ((with_reducible refine wpList_load_mid ?kl221 24 ?kl22x ?kl222 (w7.heap.size) 0 ?kl223 [.int .i64 U.re, .int .i64 U.im, .int .i64 U.den] ?kl22d ?kl224 ?kl225 ?kl226 ?kl227 ?kl228); (case kl222 => rfl); (case kl221 => rfl); (case kl223 => rfl); (case kl224 => (exact (World.rangeAt_alloc Hu.out _))); (case kl225 => exact Try.underlying24); (case kl226 => rfl); (case kl227 => kernel_rfl)) | ((with_reducible refine wpList_load_mid ?kl231 24 ?kl23x ?kl232 (w8.heap.size) 0 ?kl233 [.int .i64 V.re, .int .i64 V.im, .int .i64 V.den] ?kl23d ?kl234 ?kl235 ?kl236 ?kl237 ?kl238); (case kl232 => rfl); (case kl231 => rfl); (case kl233 => rfl); (case kl234 => (exact (World.rangeAt_alloc Hv.out _))); (case kl235 => exact Try.underlying24); (case kl236 => rfl); (case kl237 => kernel_rfl)))
    refine (add_fr U V _).mono ?_
    rintro e w13 ho
    rw [E8.out] at ho
    obtain ⟨rfl, hb⟩ : e = .returned (.tuple #[.agg #[.int .i64 S.re, .int .i64 S.im, .int .i64 S.den], .bool r8]) ∧ Below _ _ _ := ho.fn
    clear ho
    have HB := Lib.hid (show Below w.heap.size w w13 from HB.out.trans ((show Below _ _ _ from ((Below.refl _ _).alloc (by omega) _)).trans (hb.mono (by first | omega | (simp <;> omega)))))
    have Ha : Hid (w13.rangeAt (w1.heap.size) 0 [.int .i64 a.x.re, .int .i64 a.x.im, .int .i64 a.x.den, .int .i64 a.y.re, .int .i64 a.y.im, .int .i64 a.y.den]) := rangeAt_below (World.rangeAt_alloc Ha.out _) hb (by first | omega | (simp; done) | (simp <;> omega))
    have Hb : Hid (w13.rangeAt (w1.heap.size + 1) 0 [.int .i64 b.x.re, .int .i64 b.x.im, .int .i64 b.x.den, .int .i64 b.y.re, .int .i64 b.y.im, .int .i64 b.y.den]) := rangeAt_below (World.rangeAt_alloc Hb.out _) hb (by first | omega | (simp; done) | (simp <;> omega))
    have Ho : Hid (w13.rangeAt (w2.heap.size) 0 [.int .i64 m.x.re, .int .i64 m.x.im, .int .i64 m.x.den, .int .i64 m.y.re, .int .i64 m.y.im, .int .i64 m.y.den]) := rangeAt_below (World.rangeAt_alloc Ho.out _) hb (by first | omega | (simp; done) | (simp <;> omega))
    have Hq : Hid (w13.rangeAt (w3.heap.size) 0 [.int .i64 m.x.re, .int .i64 m.x.im, .int .i64 m.x.den, .int .i64 m.y.re, .int .i64 m.y.im, .int .i64 m.y.den]) := rangeAt_below (World.rangeAt_alloc Hq.out _) hb (by first | omega | (simp; done) | (simp <;> omega))
    have Hx : Hid (w13.rangeAt (w4.heap.size) 0 [.int .i64 m.x.re, .int .i64 m.x.im, .int .i64 m.x.den, .int .i64 m.y.re, .int .i64 m.y.im, .int .i64 m.y.den]) := rangeAt_below (World.rangeAt_alloc Hx.out _) hb (by first | omega | (simp; done) | (simp <;> omega))
    have Hmi : Hid (w13.rangeAt (w5.heap.size) 0 [.int .i64 n.x.re, .int .i64 n.x.im, .int .i64 n.x.den, .int .i64 n.y.re, .int .i64 n.y.im, .int .i64 n.y.den]) := rangeAt_below (World.rangeAt_alloc Hmi.out _) hb (by first | omega | (simp; done) | (simp <;> omega))
    have Hle : Hid (w13.rangeAt (w6.heap.size) 0 [.int .i64 L.x.re, .int .i64 L.x.im, .int .i64 L.x.den, .int .i64 L.y.re, .int .i64 L.y.im, .int .i64 L.y.den]) := rangeAt_below (World.rangeAt_alloc Hle.out _) hb (by first | omega | (simp; done) | (simp <;> omega))
    have Hu : Hid (w13.rangeAt (w7.heap.size) 0 [.int .i64 U.re, .int .i64 U.im, .int .i64 U.den]) := rangeAt_below (World.rangeAt_alloc Hu.out _) hb (by first | omega | (simp; done) | (simp <;> omega))
    have Hv : Hid (w13.rangeAt (w8.heap.size) 0 [.int .i64 V.re, .int .i64 V.im, .int .i64 V.den]) := rangeAt_below (World.rangeAt_alloc Hv.out _) hb (by first | omega | (simp; done) | (simp <;> omega))
    have Hww : Hid (w13.rangeAt (w9.heap.size) 0 [.int .i64 W.re, .int .i64 W.im, .int .i64 W.den]) := rangeAt_below (World.rangeAt_alloc Hww.out _) hb (by first | omega | (simp; done) | (simp <;> omega))
    have Hzz : Hid (w13.rangeAt (w10.heap.size) 0 [.int .i64 Y.re, .int .i64 Y.im, .int .i64 Y.den]) := rangeAt_below (World.rangeAt_alloc Hzz.out _) hb (by first | omega | (simp; done) | (simp <;> omega))
    have Hbo : Hid (w13.rangeAt (w11.heap.size) 0 [.int .i64 B.re, .int .i64 B.im, .int .i64 B.den]) := rangeAt_below (World.rangeAt_alloc Hbo.out _) hb (by first | omega | (simp; done) | (simp <;> omega))
    have Htw : Hid (w13.rangeAt w12.heap.size 0 [.int .i64 T.re, .int .i64 T.im, .int .i64 T.den]) := rangeAt_below (rangeAt_new _ _ _) hb (by first | omega | (simp; done) | (simp <;> omega))
    have hz13 := hb.size
    (try simp at hz13)
    clear hb
    have nA0 : w1.heap.size < w13.heap.size := by omega
    have nB0 : ¬ w1.heap.size = w13.heap.size := by omega
    have nC0 : ¬ w13.heap.size = w1.heap.size := by omega
    have nA1 : w1.heap.size + 1 < w13.heap.size := by omega
    have nB1 : ¬ w1.heap.size + 1 = w13.heap.size := by omega
    have nC1 : ¬ w13.heap.size = w1.heap.size + 1 := by omega
    have nA2 : w2.heap.size < w13.heap.size := by omega
    have nB2 : ¬ w2.heap.size = w13.heap.size := by omega
    have nC2 : ¬ w13.heap.size = w2.heap.size := by omega
    have nA3 : w3.heap.size < w13.heap.size := by omega
    have nB3 : ¬ w3.heap.size = w13.heap.size := by omega
    have nC3 : ¬ w13.heap.size = w3.heap.size := by omega
    have nA4 : w4.heap.size < w13.heap.size := by omega
    have nB4 : ¬ w4.heap.size = w13.heap.size := by omega
    have nC4 : ¬ w13.heap.size = w4.heap.size := by omega
    have nA5 : w5.heap.size < w13.heap.size := by omega
    have nB5 : ¬ w5.heap.size = w13.heap.size := by omega
    have nC5 : ¬ w13.heap.size = w5.heap.size := by omega
    have nA6 : w6.heap.size < w13.heap.size := by omega
    have nB6 : ¬ w6.heap.size = w13.heap.size := by omega
    have nC6 : ¬ w13.heap.size = w6.heap.size := by omega
    have nA7 : w7.heap.size < w13.heap.size := by omega
    have nB7 : ¬ w7.heap.size = w13.heap.size := by omega
    have nC7 : ¬ w13.heap.size = w7.heap.size := by omega
    have nA8 : w8.heap.size < w13.heap.size := by omega
    have nB8 : ¬ w8.heap.size = w13.heap.size := by omega
    have nC8 : ¬ w13.heap.size = w8.heap.size := by omega
    have nA9 : w9.heap.size < w13.heap.size := by omega
    have nB9 : ¬ w9.heap.size = w13.heap.size := by omega
    have nC9 : ¬ w13.heap.size = w9.heap.size := by omega
    have nA10 : w10.heap.size < w13.heap.size := by omega
    have nB10 : ¬ w10.heap.size = w13.heap.size := by omega
    have nC10 : ¬ w13.heap.size = w10.heap.size := by omega
    have nA11 : w11.heap.size < w13.heap.size := by omega
    have nB11 : ¬ w11.heap.size = w13.heap.size := by omega
    have nC11 : ¬ w13.heap.size = w11.heap.size := by omega
    have nA12 : w12.heap.size < w13.heap.size := by omega
    have nB12 : ¬ w12.heap.size = w13.heap.size := by omega
    have nC12 : ¬ w13.heap.size = w12.heap.size := by omega
    have zo_0 : w13.cell? ⟨w2.heap.size, 0, none⟩ = some (.int .i64 m.x.re) := by have := Ho.out 0 _ rfl; rwa [Nat.zero_add] at this
    have zo_1 : w13.cell? ⟨w2.heap.size, 1, none⟩ = some (.int .i64 m.x.im) := by have := Ho.out 1 _ rfl; rwa [Nat.zero_add] at this
    have zo_2 : w13.cell? ⟨w2.heap.size, 2, none⟩ = some (.int .i64 m.x.den) := by have := Ho.out 2 _ rfl; rwa [Nat.zero_add] at this
    have zo_3 : w13.cell? ⟨w2.heap.size, 3, none⟩ = some (.int .i64 m.y.re) := by have := Ho.out 3 _ rfl; rwa [Nat.zero_add] at this
    have zo_4 : w13.cell? ⟨w2.heap.size, 4, none⟩ = some (.int .i64 m.y.im) := by have := Ho.out 4 _ rfl; rwa [Nat.zero_add] at this
    have zo_5 : w13.cell? ⟨w2.heap.size, 5, none⟩ = some (.int .i64 m.y.den) := by have := Ho.out 5 _ rfl; rwa [Nat.zero_add] at this
    have zx_0 : w13.cell? ⟨w4.heap.size, 0, none⟩ = some (.int .i64 m.x.re) := by have := Hx.out 0 _ rfl; rwa [Nat.zero_add] at this
    have zx_1 : w13.cell? ⟨w4.heap.size, 1, none⟩ = some (.int .i64 m.x.im) := by have := Hx.out 1 _ rfl; rwa [Nat.zero_add] at this
    have zx_2 : w13.cell? ⟨w4.heap.size, 2, none⟩ = some (.int .i64 m.x.den) := by have := Hx.out 2 _ rfl; rwa [Nat.zero_add] at this
    have zx_3 : w13.cell? ⟨w4.heap.size, 3, none⟩ = some (.int .i64 m.y.re) := by have := Hx.out 3 _ rfl; rwa [Nat.zero_add] at this
    have zx_4 : w13.cell? ⟨w4.heap.size, 4, none⟩ = some (.int .i64 m.y.im) := by have := Hx.out 4 _ rfl; rwa [Nat.zero_add] at this
    have zx_5 : w13.cell? ⟨w4.heap.size, 5, none⟩ = some (.int .i64 m.y.den) := by have := Hx.out 5 _ rfl; rwa [Nat.zero_add] at this
    have ztw_0 : w13.cell? ⟨w12.heap.size, 0, none⟩ = some (.int .i64 T.re) := by have := Htw.out 0 _ rfl; rwa [Nat.zero_add] at this
    have ztw_1 : w13.cell? ⟨w12.heap.size, 1, none⟩ = some (.int .i64 T.im) := by have := Htw.out 1 _ rfl; rwa [Nat.zero_add] at this
    have ztw_2 : w13.cell? ⟨w12.heap.size, 2, none⟩ = some (.int .i64 T.den) := by have := Htw.out 2 _ rfl; rwa [Nat.zero_add] at this
    cases r1
    · skip
      go_wp2_with fail
      go_ret
      exact ⟨rfl, (by (repeat' first | (with_reducible exact HB.out) | with_reducible refine setCells_below _ _ _ ?_ (by first | omega | (simp <;> omega)) | with_reducible refine Below.setCell ?_ (by show _ ≤ _; first | omega | (simp <;> omega) | simp) _ | with_reducible refine Below.alloc ?_ (by first | omega | (simp <;> omega)) _ | with_reducible apply Below.drew))⟩
    cases r2
    · skip
      go_wp2_with fail
      go_ret
      exact ⟨rfl, (by (repeat' first | (with_reducible exact HB.out) | with_reducible refine setCells_below _ _ _ ?_ (by first | omega | (simp <;> omega)) | with_reducible refine Below.setCell ?_ (by show _ ≤ _; first | omega | (simp <;> omega) | simp) _ | with_reducible refine Below.alloc ?_ (by first | omega | (simp <;> omega)) _ | with_reducible apply Below.drew))⟩
    cases r3
    · skip
      go_wp2_with fail
      go_ret
      exact ⟨rfl, (by (repeat' first | (with_reducible exact HB.out) | with_reducible refine setCells_below _ _ _ ?_ (by first | omega | (simp <;> omega)) | with_reducible refine Below.setCell ?_ (by show _ ≤ _; first | omega | (simp <;> omega) | simp) _ | with_reducible refine Below.alloc ?_ (by first | omega | (simp <;> omega)) _ | with_reducible apply Below.drew))⟩
    cases r4
    · skip
      go_wp2_with fail
      go_ret
      exact ⟨rfl, (by (repeat' first | (with_reducible exact HB.out) | with_reducible refine setCells_below _ _ _ ?_ (by first | omega | (simp <;> omega)) | with_reducible refine Below.setCell ?_ (by show _ ≤ _; first | omega | (simp <;> omega) | simp) _ | with_reducible refine Below.alloc ?_ (by first | omega | (simp <;> omega)) _ | with_reducible apply Below.drew))⟩
    cases r5
    · skip
      go_wp2_with fail
      go_ret
      exact ⟨rfl, (by (repeat' first | (with_reducible exact HB.out) | with_reducible refine setCells_below _ _ _ ?_ (by first | omega | (simp <;> omega)) | with_reducible refine Below.setCell ?_ (by show _ ≤ _; first | omega | (simp <;> omega) | simp) _ | with_reducible refine Below.alloc ?_ (by first | omega | (simp <;> omega)) _ | with_reducible apply Below.drew))⟩
    cases r6
    · skip
      go_wp2_with fail
      go_ret
      exact ⟨rfl, (by (repeat' first | (with_reducible exact HB.out) | with_reducible refine setCells_below _ _ _ ?_ (by first | omega | (simp <;> omega)) | with_reducible refine Below.setCell ?_ (by show _ ≤ _; first | omega | (simp <;> omega) | simp) _ | with_reducible refine Below.alloc ?_ (by first | omega | (simp <;> omega)) _ | with_reducible apply Below.drew))⟩
    cases r7
    · skip
      go_wp2_with fail
      go_ret
      exact ⟨rfl, (by (repeat' first | (with_reducible exact HB.out) | with_reducible refine setCells_below _ _ _ ?_ (by first | omega | (simp <;> omega)) | with_reducible refine Below.setCell ?_ (by show _ ≤ _; first | omega | (simp <;> omega) | simp) _ | with_reducible refine Below.alloc ?_ (by first | omega | (simp <;> omega)) _ | with_reducible apply Below.drew))⟩
    cases r8
    · skip
      go_wp2_with fail
      go_ret
      exact ⟨rfl, (by (repeat' first | (with_reducible exact HB.out) | with_reducible refine setCells_below _ _ _ ?_ (by first | omega | (simp <;> omega)) | with_reducible refine Below.setCell ?_ (by show _ ≤ _; first | omega | (simp <;> omega) | simp) _ | with_reducible refine Below.alloc ?_ (by first | omega | (simp <;> omega)) _ | with_reducible apply Below.drew))⟩
    obtain rfl : S = T := HPAR.out rfl rfl rfl rfl rfl rfl rfl rfl
    go_wp2_with fail
    go_ret
    exact ⟨rfl, (by (repeat' first | (with_reducible exact HB.out) | with_reducible refine setCells_below _ _ _ ?_ (by first | omega | (simp <;> omega)) | with_reducible refine Below.setCell ?_ (by show _ ≤ _; first | omega | (simp <;> omega) | simp) _ | with_reducible refine Below.alloc ?_ (by first | omega | (simp <;> omega)) _ | with_reducible apply Below.drew))⟩

set_option maxRecDepth 100000 in
theorem lifted_FnJonesAdd (os : Os) (started : os.Started) (H : Type) (enc : TypeId × Value → H) :
    ReturnsInHanded {} Try.checked os 4 .any (Rows.fnJonesAddSpec.pre6 enc Try.prog Try.f4 Rows.fnJonesAddRow.domain false) (Rows.fnJonesAddSpec.post enc Try.prog Try.f4 false true false false) := by
  refine returnsInHanded_of_change (C := Try.checked) Try.own started (by kernel_rfl) Try.func4
    (ChangeSpec.witness6 (enc := enc) (C := Try.checked) false ⟨#[], #[.slice none 0 0], []⟩ 8 (by kernel_rfl) (by kernel_rfl) (by kernel_rfl) (by kernel_rfl)) ?_
  intro W base args ds gs before hval0 hW hcnd _
  have hval : ∀ (j : Nat) t v, Try.f4.params[j]? = some t → args[j]? = some v → Value.okWide Try.prog W .any base t v := hval0
  have hW' := hW
  obtain ⟨p, q, hA0, hV, rfl, hfz, hnd⟩ := hW
  have hA : DataW.TrodAll enc Try.prog W 0 (fun _ => true) true Try.f4.params.toList args.toList ds p := hA0
  rw [Try.params4] at hA hval
  obtain ⟨v0, d0, rfl, rfl, h0⟩ := trodAll_one hA
  obtain ⟨rfl, rfl⟩ := trodVars_none hV
  have h0k := h0
  obtain ⟨fuel, hf⟩ := h0
  clear hA0 hval0
  simp only [List.append_nil] at hW'
  have hlt : ∀ x ∈ p, x.block < W.heap.size := fun x hx => by simpa using hW'.lt x hx
  obtain ⟨a0, len, cap, rfl⟩ := okWide_slice Try.underlying22 (hval 0 22 v0 rfl rfl)
  obtain ⟨hcap, HC⟩ := open_code hf hlt
  refine (walk_FnJonesAdd a0 len cap W hcap HC).mono fun e W' ⟨he, hb⟩ => ?_
  subst he
  refine ⟨_, rfl, _, _, _, [], p, [], hW', trodAll_mk1 (shut_bool Try.underlying4 _), trodAll_mk1 (Below.trod Try.laidOut (by kernel_rfl) (of_decide_eq_true (by kernel_rfl)) h0k hb (fun x hx => hlt x (by simp [hx]))), rfl, hb.frame _, fun h => by cases h⟩

/-- THE STATEMENT. -/
theorem holds_FnJonesAdd : Rows.FnJonesAddSaid :=
  OpenClaim.holds_of_wide 4 Try.f4 rfl rfl rfl rfl rfl rfl rfl ⟨rfl, rfl, rfl, rfl, rfl⟩ rfl rfl rfl rfl rfl (by kernel_rfl) Try.func4 (by kernel_rfl)
    (of_decide_eq_true (by kernel_rfl)) (by unfold Func.isWrapper; first | (rw [if_pos (by decide +kernel)]; kernel_rfl) | (rw [if_neg (by decide +kernel)]; exact ⟨rfl, rfl⟩))
    (fun os started H enc _ => lifted_FnJonesAdd os started H enc)
end Go.Proofs.Ytlmpbijhidnekaa
