/- Mirrored vectors have the same power. -/
import Derived.Test.YtlmpbijhidnekaaDW
import Derived.Test.YtlmpbijhidnekaaDJ
import Derived.Test.YtlmpbijhidnekaaQM
import Derived.Test.YtlmpbijhidnekaaJ2
import Derived.Test.YtlmpbijhidnekaaSG
namespace Go.Proofs.Ytlmpbijhidnekaa
open Go.ChangeShapes Go.WideShapes Go.ChangeAt Go.RowKit Pol

set_option maxRecDepth 100000 in
set_option maxHeartbeats 40000000 in
theorem walk_FnJonesMirror (a0 : Option Addr) (len cap : Nat) (w : World) (hcap : len ≤ cap) (HC : Code w.heap.size w a0 len) :
    Calls Try.prog 8 #[.slice a0 len cap] w fun e w' => e = .returned (.bool true) ∧ Below w.heap.size w w' := by
  by_cases hbig : 1048576 < len
  · have h1 : (1048576 : Int) < (len : Int) := by omega
    go_enter Try.func8, Try.ntmps8
    go_wp2
    go_ret
    exact ⟨rfl, Below.refl _ _⟩
  have h1 : ¬ (1048576 : Int) < (len : Int) := by omega
  go_enter Try.func8, Try.ntmps8
  go_wp2_with fail
  refine (DrawJonesMirror_any a0 len cap _ hcap HC).mono ?_
  rintro e w1 ⟨a, rfl, hb⟩
  have HB := Lib.hid (show Below w.heap.size w w1 from hb)
  have hz1 := hb.size
  (try simp at hz1)
  clear hb
  cases hv : jv a
  · skip
    have HG : Hid (jMir a = (j2z, false)) := jMir_n hv
    go_wp2_with (first | ((with_reducible refine wpList_load_mid ?kl11 26 ?kl1x ?kl12 (w1.heap.size) 0 ?kl13 [.int .i64 a.x.re, .int .i64 a.x.im, .int .i64 a.x.den, .int .i64 a.y.re, .int .i64 a.y.im, .int .i64 a.y.den] ?kl1d ?kl14 ?kl15 ?kl16 ?kl17 ?kl18); (case kl12 => rfl); (case kl11 => rfl); (case kl13 => rfl); (case kl14 => (exact (rangeAt_new _ _ _))); (case kl15 => exact Try.underlying26); (case kl16 => rfl); (case kl17 => kernel_rfl)))
    refine (ijmir a _).mono ?_
    rintro e w2 ho
    rw [HG.out] at ho
    obtain ⟨rfl, hb⟩ : e = .returned (.tuple #[.agg #[.int .i64 j2z.x.re, .int .i64 j2z.x.im, .int .i64 j2z.x.den, .int .i64 j2z.y.re, .int .i64 j2z.y.im, .int .i64 j2z.y.den], .bool false]) ∧ Below _ _ _ := ho.fn
    clear ho
    have HB := Lib.hid (show Below w.heap.size w w2 from HB.out.trans ((show Below _ _ _ from ((Below.refl _ _).alloc (by omega) _)).trans (hb.mono (by first | omega | (simp <;> omega)))))
    have Ha : Hid (w2.rangeAt w1.heap.size 0 [.int .i64 a.x.re, .int .i64 a.x.im, .int .i64 a.x.den, .int .i64 a.y.re, .int .i64 a.y.im, .int .i64 a.y.den]) := rangeAt_below (rangeAt_new _ _ _) hb (by first | omega | (simp; done) | (simp <;> omega))
    have hz2 := hb.size
    (try simp at hz2)
    clear hb
    have nA0 : w1.heap.size < w2.heap.size := by omega
    have nB0 : ¬ w1.heap.size = w2.heap.size := by omega
    have nC0 : ¬ w2.heap.size = w1.heap.size := by omega
    go_wp2_with (first | ((with_reducible refine wpList_load_mid ?kl21 26 ?kl2x ?kl22 (w1.heap.size) 0 ?kl23 [.int .i64 a.x.re, .int .i64 a.x.im, .int .i64 a.x.den, .int .i64 a.y.re, .int .i64 a.y.im, .int .i64 a.y.den] ?kl2d ?kl24 ?kl25 ?kl26 ?kl27 ?kl28); (case kl22 => rfl); (case kl21 => rfl); (case kl23 => rfl); (case kl24 => (exact (World.rangeAt_alloc Ha.out _))); (case kl25 => exact Try.underlying26); (case kl26 => rfl); (case kl27 => kernel_rfl)))
    refine (sjmir_any a _).mono ?_
    rintro e w3 ho
    rw [HG.out] at ho
    obtain ⟨rfl, hb⟩ : e = .returned (.tuple #[.agg #[.int .i64 j2z.x.re, .int .i64 j2z.x.im, .int .i64 j2z.x.den, .int .i64 j2z.y.re, .int .i64 j2z.y.im, .int .i64 j2z.y.den], .bool false]) ∧ Below _ _ _ := ho.fn
    clear ho
    have HB := Lib.hid (show Below w.heap.size w w3 from HB.out.trans ((show Below _ _ _ from ((Below.refl _ _).alloc (by omega) _)).trans (hb.mono (by first | omega | (simp <;> omega)))))
    have Ha : Hid (w3.rangeAt (w1.heap.size) 0 [.int .i64 a.x.re, .int .i64 a.x.im, .int .i64 a.x.den, .int .i64 a.y.re, .int .i64 a.y.im, .int .i64 a.y.den]) := rangeAt_below (World.rangeAt_alloc Ha.out _) hb (by first | omega | (simp; done) | (simp <;> omega))
    have Ho : Hid (w3.rangeAt w2.heap.size 0 [.int .i64 j2z.x.re, .int .i64 j2z.x.im, .int .i64 j2z.x.den, .int .i64 j2z.y.re, .int .i64 j2z.y.im, .int .i64 j2z.y.den]) := rangeAt_below (rangeAt_new _ _ _) hb (by first | omega | (simp; done) | (simp <;> omega))
    have hz3 := hb.size
    (try simp at hz3)
    clear hb
    have nA0 : w1.heap.size < w3.heap.size := by omega
    have nB0 : ¬ w1.heap.size = w3.heap.size := by omega
    have nC0 : ¬ w3.heap.size = w1.heap.size := by omega
    have nA1 : w2.heap.size < w3.heap.size := by omega
    have nB1 : ¬ w2.heap.size = w3.heap.size := by omega
    have nC1 : ¬ w3.heap.size = w2.heap.size := by omega
    have zo_0 : w3.cell? ⟨w2.heap.size, 0, none⟩ = some (.int .i64 j2z.x.re) := by have := Ho.out 0 _ rfl; rwa [Nat.zero_add] at this
    have zo_1 : w3.cell? ⟨w2.heap.size, 1, none⟩ = some (.int .i64 j2z.x.im) := by have := Ho.out 1 _ rfl; rwa [Nat.zero_add] at this
    have zo_2 : w3.cell? ⟨w2.heap.size, 2, none⟩ = some (.int .i64 j2z.x.den) := by have := Ho.out 2 _ rfl; rwa [Nat.zero_add] at this
    have zo_3 : w3.cell? ⟨w2.heap.size, 3, none⟩ = some (.int .i64 j2z.y.re) := by have := Ho.out 3 _ rfl; rwa [Nat.zero_add] at this
    have zo_4 : w3.cell? ⟨w2.heap.size, 4, none⟩ = some (.int .i64 j2z.y.im) := by have := Ho.out 4 _ rfl; rwa [Nat.zero_add] at this
    have zo_5 : w3.cell? ⟨w2.heap.size, 5, none⟩ = some (.int .i64 j2z.y.den) := by have := Ho.out 5 _ rfl; rwa [Nat.zero_add] at this
    go_wp2_with fail
    go_ret
    exact ⟨rfl, (by (repeat' first | (with_reducible exact HB.out) | with_reducible refine setCells_below _ _ _ ?_ (by first | omega | (simp <;> omega)) | with_reducible refine Below.setCell ?_ (by show _ ≤ _; first | omega | (simp <;> omega) | simp) _ | with_reducible refine Below.alloc ?_ (by first | omega | (simp <;> omega)) _ | with_reducible apply Below.drew))⟩
  · skip
    have HG : Hid (jMir a = (jConj a, true)) := jMir_y hv
    have HG2 : Hid (jMir (jConj a) = (a, true)) := by show _ = _; rw [jMir_y (jConj_v hv), jConj_2]
    have hsm := @sOf_mir a
    obtain ⟨c, hc⟩ : ∃ c, c = jConj a := ⟨_, rfl⟩
    rw [← hc] at HG HG2 hsm
    clear hc
    go_wp2_with (first | ((with_reducible refine wpList_load_mid ?kl31 26 ?kl3x ?kl32 (w1.heap.size) 0 ?kl33 [.int .i64 a.x.re, .int .i64 a.x.im, .int .i64 a.x.den, .int .i64 a.y.re, .int .i64 a.y.im, .int .i64 a.y.den] ?kl3d ?kl34 ?kl35 ?kl36 ?kl37 ?kl38); (case kl32 => rfl); (case kl31 => rfl); (case kl33 => rfl); (case kl34 => (exact (rangeAt_new _ _ _))); (case kl35 => exact Try.underlying26); (case kl36 => rfl); (case kl37 => kernel_rfl)))
    refine (ijmir a _).mono ?_
    rintro e w2 ho
    rw [HG.out] at ho
    obtain ⟨rfl, hb⟩ : e = .returned (.tuple #[.agg #[.int .i64 c.x.re, .int .i64 c.x.im, .int .i64 c.x.den, .int .i64 c.y.re, .int .i64 c.y.im, .int .i64 c.y.den], .bool true]) ∧ Below _ _ _ := ho.fn
    clear ho
    have HB := Lib.hid (show Below w.heap.size w w2 from HB.out.trans ((show Below _ _ _ from ((Below.refl _ _).alloc (by omega) _)).trans (hb.mono (by first | omega | (simp <;> omega)))))
    have Ha : Hid (w2.rangeAt w1.heap.size 0 [.int .i64 a.x.re, .int .i64 a.x.im, .int .i64 a.x.den, .int .i64 a.y.re, .int .i64 a.y.im, .int .i64 a.y.den]) := rangeAt_below (rangeAt_new _ _ _) hb (by first | omega | (simp; done) | (simp <;> omega))
    have hz2 := hb.size
    (try simp at hz2)
    clear hb
    have nA0 : w1.heap.size < w2.heap.size := by omega
    have nB0 : ¬ w1.heap.size = w2.heap.size := by omega
    have nC0 : ¬ w2.heap.size = w1.heap.size := by omega
    go_wp2_with (first | ((with_reducible refine wpList_load_mid ?kl41 26 ?kl4x ?kl42 (w1.heap.size) 0 ?kl43 [.int .i64 a.x.re, .int .i64 a.x.im, .int .i64 a.x.den, .int .i64 a.y.re, .int .i64 a.y.im, .int .i64 a.y.den] ?kl4d ?kl44 ?kl45 ?kl46 ?kl47 ?kl48); (case kl42 => rfl); (case kl41 => rfl); (case kl43 => rfl); (case kl44 => (exact (World.rangeAt_alloc Ha.out _))); (case kl45 => exact Try.underlying26); (case kl46 => rfl); (case kl47 => kernel_rfl)))
    refine (sjmir_any a _).mono ?_
    rintro e w3 ho
    rw [HG.out] at ho
    obtain ⟨rfl, hb⟩ : e = .returned (.tuple #[.agg #[.int .i64 c.x.re, .int .i64 c.x.im, .int .i64 c.x.den, .int .i64 c.y.re, .int .i64 c.y.im, .int .i64 c.y.den], .bool true]) ∧ Below _ _ _ := ho.fn
    clear ho
    have HB := Lib.hid (show Below w.heap.size w w3 from HB.out.trans ((show Below _ _ _ from ((Below.refl _ _).alloc (by omega) _)).trans (hb.mono (by first | omega | (simp <;> omega)))))
    have Ha : Hid (w3.rangeAt (w1.heap.size) 0 [.int .i64 a.x.re, .int .i64 a.x.im, .int .i64 a.x.den, .int .i64 a.y.re, .int .i64 a.y.im, .int .i64 a.y.den]) := rangeAt_below (World.rangeAt_alloc Ha.out _) hb (by first | omega | (simp; done) | (simp <;> omega))
    have Ho : Hid (w3.rangeAt w2.heap.size 0 [.int .i64 c.x.re, .int .i64 c.x.im, .int .i64 c.x.den, .int .i64 c.y.re, .int .i64 c.y.im, .int .i64 c.y.den]) := rangeAt_below (rangeAt_new _ _ _) hb (by first | omega | (simp; done) | (simp <;> omega))
    have hz3 := hb.size
    (try simp at hz3)
    clear hb
    have nA0 : w1.heap.size < w3.heap.size := by omega
    have nB0 : ¬ w1.heap.size = w3.heap.size := by omega
    have nC0 : ¬ w3.heap.size = w1.heap.size := by omega
    have nA1 : w2.heap.size < w3.heap.size := by omega
    have nB1 : ¬ w2.heap.size = w3.heap.size := by omega
    have nC1 : ¬ w3.heap.size = w2.heap.size := by omega
    have zo_0 : w3.cell? ⟨w2.heap.size, 0, none⟩ = some (.int .i64 c.x.re) := by have := Ho.out 0 _ rfl; rwa [Nat.zero_add] at this
    have zo_1 : w3.cell? ⟨w2.heap.size, 1, none⟩ = some (.int .i64 c.x.im) := by have := Ho.out 1 _ rfl; rwa [Nat.zero_add] at this
    have zo_2 : w3.cell? ⟨w2.heap.size, 2, none⟩ = some (.int .i64 c.x.den) := by have := Ho.out 2 _ rfl; rwa [Nat.zero_add] at this
    have zo_3 : w3.cell? ⟨w2.heap.size, 3, none⟩ = some (.int .i64 c.y.re) := by have := Ho.out 3 _ rfl; rwa [Nat.zero_add] at this
    have zo_4 : w3.cell? ⟨w2.heap.size, 4, none⟩ = some (.int .i64 c.y.im) := by have := Ho.out 4 _ rfl; rwa [Nat.zero_add] at this
    have zo_5 : w3.cell? ⟨w2.heap.size, 5, none⟩ = some (.int .i64 c.y.den) := by have := Ho.out 5 _ rfl; rwa [Nat.zero_add] at this
    go_wp2_with (first | ((with_reducible refine wpList_load_mid ?kl51 26 ?kl5x ?kl52 (w2.heap.size) 0 ?kl53 [.int .i64 c.x.re, .int .i64 c.x.im, .int .i64 c.x.den, .int .i64 c.y.re, .int .i64 c.y.im, .int .i64 c.y.den] ?kl5d ?kl54 ?kl55 ?kl56 ?kl57 ?kl58); (case kl52 => rfl); (case kl51 => rfl); (case kl53 => rfl); (case kl54 => (exact (World.rangeAt_alloc Ho.out _))); (case kl55 => exact Try.underlying26); (case kl56 => rfl); (case kl57 => kernel_rfl)))
    refine (ijmir c _).mono ?_
    rintro e w4 ho
    rw [HG2.out] at ho
    obtain ⟨rfl, hb⟩ : e = .returned (.tuple #[.agg #[.int .i64 a.x.re, .int .i64 a.x.im, .int .i64 a.x.den, .int .i64 a.y.re, .int .i64 a.y.im, .int .i64 a.y.den], .bool true]) ∧ Below _ _ _ := ho.fn
    clear ho
    have HB := Lib.hid (show Below w.heap.size w w4 from HB.out.trans ((show Below _ _ _ from ((Below.refl _ _).alloc (by omega) _)).trans (hb.mono (by first | omega | (simp <;> omega)))))
    have Ha : Hid (w4.rangeAt (w1.heap.size) 0 [.int .i64 a.x.re, .int .i64 a.x.im, .int .i64 a.x.den, .int .i64 a.y.re, .int .i64 a.y.im, .int .i64 a.y.den]) := rangeAt_below (World.rangeAt_alloc Ha.out _) hb (by first | omega | (simp; done) | (simp <;> omega))
    have Ho : Hid (w4.rangeAt (w2.heap.size) 0 [.int .i64 c.x.re, .int .i64 c.x.im, .int .i64 c.x.den, .int .i64 c.y.re, .int .i64 c.y.im, .int .i64 c.y.den]) := rangeAt_below (World.rangeAt_alloc Ho.out _) hb (by first | omega | (simp; done) | (simp <;> omega))
    have Hq : Hid (w4.rangeAt w3.heap.size 0 [.int .i64 c.x.re, .int .i64 c.x.im, .int .i64 c.x.den, .int .i64 c.y.re, .int .i64 c.y.im, .int .i64 c.y.den]) := rangeAt_below (rangeAt_new _ _ _) hb (by first | omega | (simp; done) | (simp <;> omega))
    have hz4 := hb.size
    (try simp at hz4)
    clear hb
    have nA0 : w1.heap.size < w4.heap.size := by omega
    have nB0 : ¬ w1.heap.size = w4.heap.size := by omega
    have nC0 : ¬ w4.heap.size = w1.heap.size := by omega
    have nA1 : w2.heap.size < w4.heap.size := by omega
    have nB1 : ¬ w2.heap.size = w4.heap.size := by omega
    have nC1 : ¬ w4.heap.size = w2.heap.size := by omega
    have nA2 : w3.heap.size < w4.heap.size := by omega
    have nB2 : ¬ w3.heap.size = w4.heap.size := by omega
    have nC2 : ¬ w4.heap.size = w3.heap.size := by omega
    cases hq : (sOf a).2
    · skip
      have HU : Hid (sOf a = (m4z, false)) := by show _ = _; rw [← sOfI_eq] at hq ⊢; exact gt_no hq
      obtain ⟨V, r, hV⟩ : ∃ V r, sOf c = (V, r) := ⟨_, _, rfl⟩
      obtain ⟨X, s, hX⟩ : ∃ X s, gMir m4z = (X, s) := ⟨_, _, rfl⟩
      have HV := Lib.hid hV
      have HX := Lib.hid hX
      clear hV hX hsm hq
      go_wp2_with (first | ((with_reducible refine wpList_load_mid ?kl61 26 ?kl6x ?kl62 (w1.heap.size) 0 ?kl63 [.int .i64 a.x.re, .int .i64 a.x.im, .int .i64 a.x.den, .int .i64 a.y.re, .int .i64 a.y.im, .int .i64 a.y.den] ?kl6d ?kl64 ?kl65 ?kl66 ?kl67 ?kl68); (case kl62 => rfl); (case kl61 => rfl); (case kl63 => rfl); (case kl64 => (exact (World.rangeAt_alloc Ha.out _))); (case kl65 => exact Try.underlying26); (case kl66 => rfl); (case kl67 => kernel_rfl)))
      refine (isof_any a _).mono ?_
      rintro e w5 ho
      rw [HU.out] at ho
      obtain ⟨rfl, hb⟩ : e = .returned (.tuple #[.agg #[.int .i64 m4z.a.re, .int .i64 m4z.a.im, .int .i64 m4z.a.den, .int .i64 m4z.b.re, .int .i64 m4z.b.im, .int .i64 m4z.b.den, .int .i64 m4z.c.re, .int .i64 m4z.c.im, .int .i64 m4z.c.den, .int .i64 m4z.d.re, .int .i64 m4z.d.im, .int .i64 m4z.d.den], .bool false]) ∧ Below _ _ _ := ho.fn
      clear ho
      have HB := Lib.hid (show Below w.heap.size w w5 from HB.out.trans ((show Below _ _ _ from ((Below.refl _ _).alloc (by omega) _)).trans (hb.mono (by first | omega | (simp <;> omega)))))
      have Ha : Hid (w5.rangeAt (w1.heap.size) 0 [.int .i64 a.x.re, .int .i64 a.x.im, .int .i64 a.x.den, .int .i64 a.y.re, .int .i64 a.y.im, .int .i64 a.y.den]) := rangeAt_below (World.rangeAt_alloc Ha.out _) hb (by first | omega | (simp; done) | (simp <;> omega))
      have Ho : Hid (w5.rangeAt (w2.heap.size) 0 [.int .i64 c.x.re, .int .i64 c.x.im, .int .i64 c.x.den, .int .i64 c.y.re, .int .i64 c.y.im, .int .i64 c.y.den]) := rangeAt_below (World.rangeAt_alloc Ho.out _) hb (by first | omega | (simp; done) | (simp <;> omega))
      have Hq : Hid (w5.rangeAt (w3.heap.size) 0 [.int .i64 c.x.re, .int .i64 c.x.im, .int .i64 c.x.den, .int .i64 c.y.re, .int .i64 c.y.im, .int .i64 c.y.den]) := rangeAt_below (World.rangeAt_alloc Hq.out _) hb (by first | omega | (simp; done) | (simp <;> omega))
      have Hx : Hid (w5.rangeAt w4.heap.size 0 [.int .i64 a.x.re, .int .i64 a.x.im, .int .i64 a.x.den, .int .i64 a.y.re, .int .i64 a.y.im, .int .i64 a.y.den]) := rangeAt_below (rangeAt_new _ _ _) hb (by first | omega | (simp; done) | (simp <;> omega))
      have hz5 := hb.size
      (try simp at hz5)
      clear hb
      have nA0 : w1.heap.size < w5.heap.size := by omega
      have nB0 : ¬ w1.heap.size = w5.heap.size := by omega
      have nC0 : ¬ w5.heap.size = w1.heap.size := by omega
      have nA1 : w2.heap.size < w5.heap.size := by omega
      have nB1 : ¬ w2.heap.size = w5.heap.size := by omega
      have nC1 : ¬ w5.heap.size = w2.heap.size := by omega
      have nA2 : w3.heap.size < w5.heap.size := by omega
      have nB2 : ¬ w3.heap.size = w5.heap.size := by omega
      have nC2 : ¬ w5.heap.size = w3.heap.size := by omega
      have nA3 : w4.heap.size < w5.heap.size := by omega
      have nB3 : ¬ w4.heap.size = w5.heap.size := by omega
      have nC3 : ¬ w5.heap.size = w4.heap.size := by omega
      go_wp2_with (first | ((with_reducible refine wpList_load_mid ?kl71 26 ?kl7x ?kl72 (w2.heap.size) 0 ?kl73 [.int .i64 c.x.re, .int .i64 c.x.im, .int .i64 c.x.den, .int .i64 c.y.re, .int .i64 c.y.im, .int .i64 c.y.den] ?kl7d ?kl74 ?kl75 ?kl76 ?kl77 ?kl78); (case kl72 => rfl); (case kl71 => rfl); (case kl73 => rfl); (case kl74 => (exact (World.rangeAt_alloc Ho.out _))); (case kl75 => exact Try.underlying26); (case kl76 => rfl); (case kl77 => kernel_rfl)))
      refine (isof_any c _).mono ?_
      rintro e w6 ho
      rw [HV.out] at ho
      obtain ⟨rfl, hb⟩ : e = .returned (.tuple #[.agg #[.int .i64 V.a.re, .int .i64 V.a.im, .int .i64 V.a.den, .int .i64 V.b.re, .int .i64 V.b.im, .int .i64 V.b.den, .int .i64 V.c.re, .int .i64 V.c.im, .int .i64 V.c.den, .int .i64 V.d.re, .int .i64 V.d.im, .int .i64 V.d.den], .bool r]) ∧ Below _ _ _ := ho.fn
      clear ho
      have HB := Lib.hid (show Below w.heap.size w w6 from HB.out.trans ((show Below _ _ _ from ((Below.refl _ _).alloc (by omega) _)).trans (hb.mono (by first | omega | (simp <;> omega)))))
      have Ha : Hid (w6.rangeAt (w1.heap.size) 0 [.int .i64 a.x.re, .int .i64 a.x.im, .int .i64 a.x.den, .int .i64 a.y.re, .int .i64 a.y.im, .int .i64 a.y.den]) := rangeAt_below (World.rangeAt_alloc Ha.out _) hb (by first | omega | (simp; done) | (simp <;> omega))
      have Ho : Hid (w6.rangeAt (w2.heap.size) 0 [.int .i64 c.x.re, .int .i64 c.x.im, .int .i64 c.x.den, .int .i64 c.y.re, .int .i64 c.y.im, .int .i64 c.y.den]) := rangeAt_below (World.rangeAt_alloc Ho.out _) hb (by first | omega | (simp; done) | (simp <;> omega))
      have Hq : Hid (w6.rangeAt (w3.heap.size) 0 [.int .i64 c.x.re, .int .i64 c.x.im, .int .i64 c.x.den, .int .i64 c.y.re, .int .i64 c.y.im, .int .i64 c.y.den]) := rangeAt_below (World.rangeAt_alloc Hq.out _) hb (by first | omega | (simp; done) | (simp <;> omega))
      have Hx : Hid (w6.rangeAt (w4.heap.size) 0 [.int .i64 a.x.re, .int .i64 a.x.im, .int .i64 a.x.den, .int .i64 a.y.re, .int .i64 a.y.im, .int .i64 a.y.den]) := rangeAt_below (World.rangeAt_alloc Hx.out _) hb (by first | omega | (simp; done) | (simp <;> omega))
      have Hu : Hid (w6.rangeAt w5.heap.size 0 [.int .i64 m4z.a.re, .int .i64 m4z.a.im, .int .i64 m4z.a.den, .int .i64 m4z.b.re, .int .i64 m4z.b.im, .int .i64 m4z.b.den, .int .i64 m4z.c.re, .int .i64 m4z.c.im, .int .i64 m4z.c.den, .int .i64 m4z.d.re, .int .i64 m4z.d.im, .int .i64 m4z.d.den]) := rangeAt_below (rangeAt_new _ _ _) hb (by first | omega | (simp; done) | (simp <;> omega))
      have hz6 := hb.size
      (try simp at hz6)
      clear hb
      have nA0 : w1.heap.size < w6.heap.size := by omega
      have nB0 : ¬ w1.heap.size = w6.heap.size := by omega
      have nC0 : ¬ w6.heap.size = w1.heap.size := by omega
      have nA1 : w2.heap.size < w6.heap.size := by omega
      have nB1 : ¬ w2.heap.size = w6.heap.size := by omega
      have nC1 : ¬ w6.heap.size = w2.heap.size := by omega
      have nA2 : w3.heap.size < w6.heap.size := by omega
      have nB2 : ¬ w3.heap.size = w6.heap.size := by omega
      have nC2 : ¬ w6.heap.size = w3.heap.size := by omega
      have nA3 : w4.heap.size < w6.heap.size := by omega
      have nB3 : ¬ w4.heap.size = w6.heap.size := by omega
      have nC3 : ¬ w6.heap.size = w4.heap.size := by omega
      have nA4 : w5.heap.size < w6.heap.size := by omega
      have nB4 : ¬ w5.heap.size = w6.heap.size := by omega
      have nC4 : ¬ w6.heap.size = w5.heap.size := by omega
      go_wp2_with (first | ((with_reducible refine wpList_load_mid ?kl81 45 ?kl8x ?kl82 (w5.heap.size) 0 ?kl83 [.int .i64 m4z.a.re, .int .i64 m4z.a.im, .int .i64 m4z.a.den, .int .i64 m4z.b.re, .int .i64 m4z.b.im, .int .i64 m4z.b.den, .int .i64 m4z.c.re, .int .i64 m4z.c.im, .int .i64 m4z.c.den, .int .i64 m4z.d.re, .int .i64 m4z.d.im, .int .i64 m4z.d.den] ?kl8d ?kl84 ?kl85 ?kl86 ?kl87 ?kl88); (case kl82 => rfl); (case kl81 => rfl); (case kl83 => rfl); (case kl84 => (exact (World.rangeAt_alloc Hu.out _))); (case kl85 => exact Try.underlying45); (case kl86 => rfl); (case kl87 => kernel_rfl)))
      refine (imir_any m4z _).mono ?_
      rintro e w7 ho
      rw [HX.out] at ho
      obtain ⟨rfl, hb⟩ : e = .returned (.tuple #[.agg #[.int .i64 X.a.re, .int .i64 X.a.im, .int .i64 X.a.den, .int .i64 X.b.re, .int .i64 X.b.im, .int .i64 X.b.den, .int .i64 X.c.re, .int .i64 X.c.im, .int .i64 X.c.den, .int .i64 X.d.re, .int .i64 X.d.im, .int .i64 X.d.den], .bool s]) ∧ Below _ _ _ := ho.fn
      clear ho
      have HB := Lib.hid (show Below w.heap.size w w7 from HB.out.trans ((show Below _ _ _ from ((Below.refl _ _).alloc (by omega) _)).trans (hb.mono (by first | omega | (simp <;> omega)))))
      have Ha : Hid (w7.rangeAt (w1.heap.size) 0 [.int .i64 a.x.re, .int .i64 a.x.im, .int .i64 a.x.den, .int .i64 a.y.re, .int .i64 a.y.im, .int .i64 a.y.den]) := rangeAt_below (World.rangeAt_alloc Ha.out _) hb (by first | omega | (simp; done) | (simp <;> omega))
      have Ho : Hid (w7.rangeAt (w2.heap.size) 0 [.int .i64 c.x.re, .int .i64 c.x.im, .int .i64 c.x.den, .int .i64 c.y.re, .int .i64 c.y.im, .int .i64 c.y.den]) := rangeAt_below (World.rangeAt_alloc Ho.out _) hb (by first | omega | (simp; done) | (simp <;> omega))
      have Hq : Hid (w7.rangeAt (w3.heap.size) 0 [.int .i64 c.x.re, .int .i64 c.x.im, .int .i64 c.x.den, .int .i64 c.y.re, .int .i64 c.y.im, .int .i64 c.y.den]) := rangeAt_below (World.rangeAt_alloc Hq.out _) hb (by first | omega | (simp; done) | (simp <;> omega))
      have Hx : Hid (w7.rangeAt (w4.heap.size) 0 [.int .i64 a.x.re, .int .i64 a.x.im, .int .i64 a.x.den, .int .i64 a.y.re, .int .i64 a.y.im, .int .i64 a.y.den]) := rangeAt_below (World.rangeAt_alloc Hx.out _) hb (by first | omega | (simp; done) | (simp <;> omega))
      have Hu : Hid (w7.rangeAt (w5.heap.size) 0 [.int .i64 m4z.a.re, .int .i64 m4z.a.im, .int .i64 m4z.a.den, .int .i64 m4z.b.re, .int .i64 m4z.b.im, .int .i64 m4z.b.den, .int .i64 m4z.c.re, .int .i64 m4z.c.im, .int .i64 m4z.c.den, .int .i64 m4z.d.re, .int .i64 m4z.d.im, .int .i64 m4z.d.den]) := rangeAt_below (World.rangeAt_alloc Hu.out _) hb (by first | omega | (simp; done) | (simp <;> omega))
      have Hv : Hid (w7.rangeAt w6.heap.size 0 [.int .i64 V.a.re, .int .i64 V.a.im, .int .i64 V.a.den, .int .i64 V.b.re, .int .i64 V.b.im, .int .i64 V.b.den, .int .i64 V.c.re, .int .i64 V.c.im, .int .i64 V.c.den, .int .i64 V.d.re, .int .i64 V.d.im, .int .i64 V.d.den]) := rangeAt_below (rangeAt_new _ _ _) hb (by first | omega | (simp; done) | (simp <;> omega))
      have hz7 := hb.size
      (try simp at hz7)
      clear hb
      have nA0 : w1.heap.size < w7.heap.size := by omega
      have nB0 : ¬ w1.heap.size = w7.heap.size := by omega
      have nC0 : ¬ w7.heap.size = w1.heap.size := by omega
      have nA1 : w2.heap.size < w7.heap.size := by omega
      have nB1 : ¬ w2.heap.size = w7.heap.size := by omega
      have nC1 : ¬ w7.heap.size = w2.heap.size := by omega
      have nA2 : w3.heap.size < w7.heap.size := by omega
      have nB2 : ¬ w3.heap.size = w7.heap.size := by omega
      have nC2 : ¬ w7.heap.size = w3.heap.size := by omega
      have nA3 : w4.heap.size < w7.heap.size := by omega
      have nB3 : ¬ w4.heap.size = w7.heap.size := by omega
      have nC3 : ¬ w7.heap.size = w4.heap.size := by omega
      have nA4 : w5.heap.size < w7.heap.size := by omega
      have nB4 : ¬ w5.heap.size = w7.heap.size := by omega
      have nC4 : ¬ w7.heap.size = w5.heap.size := by omega
      have nA5 : w6.heap.size < w7.heap.size := by omega
      have nB5 : ¬ w6.heap.size = w7.heap.size := by omega
      have nC5 : ¬ w7.heap.size = w6.heap.size := by omega
      have zx_0 : w7.cell? ⟨w4.heap.size, 0, none⟩ = some (.int .i64 a.x.re) := by have := Hx.out 0 _ rfl; rwa [Nat.zero_add] at this
      have zx_1 : w7.cell? ⟨w4.heap.size, 1, none⟩ = some (.int .i64 a.x.im) := by have := Hx.out 1 _ rfl; rwa [Nat.zero_add] at this
      have zx_2 : w7.cell? ⟨w4.heap.size, 2, none⟩ = some (.int .i64 a.x.den) := by have := Hx.out 2 _ rfl; rwa [Nat.zero_add] at this
      have zx_3 : w7.cell? ⟨w4.heap.size, 3, none⟩ = some (.int .i64 a.y.re) := by have := Hx.out 3 _ rfl; rwa [Nat.zero_add] at this
      have zx_4 : w7.cell? ⟨w4.heap.size, 4, none⟩ = some (.int .i64 a.y.im) := by have := Hx.out 4 _ rfl; rwa [Nat.zero_add] at this
      have zx_5 : w7.cell? ⟨w4.heap.size, 5, none⟩ = some (.int .i64 a.y.den) := by have := Hx.out 5 _ rfl; rwa [Nat.zero_add] at this
      have za_0 : w7.cell? ⟨w1.heap.size, 0, none⟩ = some (.int .i64 a.x.re) := by have := Ha.out 0 _ rfl; rwa [Nat.zero_add] at this
      have za_1 : w7.cell? ⟨w1.heap.size, 1, none⟩ = some (.int .i64 a.x.im) := by have := Ha.out 1 _ rfl; rwa [Nat.zero_add] at this
      have za_2 : w7.cell? ⟨w1.heap.size, 2, none⟩ = some (.int .i64 a.x.den) := by have := Ha.out 2 _ rfl; rwa [Nat.zero_add] at this
      have za_3 : w7.cell? ⟨w1.heap.size, 3, none⟩ = some (.int .i64 a.y.re) := by have := Ha.out 3 _ rfl; rwa [Nat.zero_add] at this
      have za_4 : w7.cell? ⟨w1.heap.size, 4, none⟩ = some (.int .i64 a.y.im) := by have := Ha.out 4 _ rfl; rwa [Nat.zero_add] at this
      have za_5 : w7.cell? ⟨w1.heap.size, 5, none⟩ = some (.int .i64 a.y.den) := by have := Ha.out 5 _ rfl; rwa [Nat.zero_add] at this
      go_wp2_with fail
      go_ret
      exact ⟨rfl, (by (repeat' first | (with_reducible exact HB.out) | with_reducible refine setCells_below _ _ _ ?_ (by first | omega | (simp <;> omega)) | with_reducible refine Below.setCell ?_ (by show _ ≤ _; first | omega | (simp <;> omega) | simp) _ | with_reducible refine Below.alloc ?_ (by first | omega | (simp <;> omega)) _ | with_reducible apply Below.drew))⟩
    · skip
      obtain ⟨U, hU⟩ : ∃ U, U = (sOf a).1 := ⟨_, rfl⟩
      have HU : Hid (sOf a = (U, true)) := by show _ = _; rw [hU, ← hq]
      obtain ⟨hV, hX⟩ := hsm HU.out
      obtain ⟨M, hM⟩ : ∃ M, M = setD U ⟨-U.d.re, U.d.im, U.d.den⟩ := ⟨_, rfl⟩
      rw [← hM] at hV hX
      have HV := Lib.hid hV
      have HX := Lib.hid hX
      clear hV hX hM hU hq hsm
      go_wp2_with (first | ((with_reducible refine wpList_load_mid ?kl91 26 ?kl9x ?kl92 (w1.heap.size) 0 ?kl93 [.int .i64 a.x.re, .int .i64 a.x.im, .int .i64 a.x.den, .int .i64 a.y.re, .int .i64 a.y.im, .int .i64 a.y.den] ?kl9d ?kl94 ?kl95 ?kl96 ?kl97 ?kl98); (case kl92 => rfl); (case kl91 => rfl); (case kl93 => rfl); (case kl94 => (exact (World.rangeAt_alloc Ha.out _))); (case kl95 => exact Try.underlying26); (case kl96 => rfl); (case kl97 => kernel_rfl)))
      refine (isof_any a _).mono ?_
      rintro e w5 ho
      rw [HU.out] at ho
      obtain ⟨rfl, hb⟩ : e = .returned (.tuple #[.agg #[.int .i64 U.a.re, .int .i64 U.a.im, .int .i64 U.a.den, .int .i64 U.b.re, .int .i64 U.b.im, .int .i64 U.b.den, .int .i64 U.c.re, .int .i64 U.c.im, .int .i64 U.c.den, .int .i64 U.d.re, .int .i64 U.d.im, .int .i64 U.d.den], .bool true]) ∧ Below _ _ _ := ho.fn
      clear ho
      have HB := Lib.hid (show Below w.heap.size w w5 from HB.out.trans ((show Below _ _ _ from ((Below.refl _ _).alloc (by omega) _)).trans (hb.mono (by first | omega | (simp <;> omega)))))
      have Ha : Hid (w5.rangeAt (w1.heap.size) 0 [.int .i64 a.x.re, .int .i64 a.x.im, .int .i64 a.x.den, .int .i64 a.y.re, .int .i64 a.y.im, .int .i64 a.y.den]) := rangeAt_below (World.rangeAt_alloc Ha.out _) hb (by first | omega | (simp; done) | (simp <;> omega))
      have Ho : Hid (w5.rangeAt (w2.heap.size) 0 [.int .i64 c.x.re, .int .i64 c.x.im, .int .i64 c.x.den, .int .i64 c.y.re, .int .i64 c.y.im, .int .i64 c.y.den]) := rangeAt_below (World.rangeAt_alloc Ho.out _) hb (by first | omega | (simp; done) | (simp <;> omega))
      have Hq : Hid (w5.rangeAt (w3.heap.size) 0 [.int .i64 c.x.re, .int .i64 c.x.im, .int .i64 c.x.den, .int .i64 c.y.re, .int .i64 c.y.im, .int .i64 c.y.den]) := rangeAt_below (World.rangeAt_alloc Hq.out _) hb (by first | omega | (simp; done) | (simp <;> omega))
      have Hx : Hid (w5.rangeAt w4.heap.size 0 [.int .i64 a.x.re, .int .i64 a.x.im, .int .i64 a.x.den, .int .i64 a.y.re, .int .i64 a.y.im, .int .i64 a.y.den]) := rangeAt_below (rangeAt_new _ _ _) hb (by first | omega | (simp; done) | (simp <;> omega))
      have hz5 := hb.size
      (try simp at hz5)
      clear hb
      have nA0 : w1.heap.size < w5.heap.size := by omega
      have nB0 : ¬ w1.heap.size = w5.heap.size := by omega
      have nC0 : ¬ w5.heap.size = w1.heap.size := by omega
      have nA1 : w2.heap.size < w5.heap.size := by omega
      have nB1 : ¬ w2.heap.size = w5.heap.size := by omega
      have nC1 : ¬ w5.heap.size = w2.heap.size := by omega
      have nA2 : w3.heap.size < w5.heap.size := by omega
      have nB2 : ¬ w3.heap.size = w5.heap.size := by omega
      have nC2 : ¬ w5.heap.size = w3.heap.size := by omega
      have nA3 : w4.heap.size < w5.heap.size := by omega
      have nB3 : ¬ w4.heap.size = w5.heap.size := by omega
      have nC3 : ¬ w5.heap.size = w4.heap.size := by omega
      go_wp2_with (first | ((with_reducible refine wpList_load_mid ?kl101 26 ?kl10x ?kl102 (w2.heap.size) 0 ?kl103 [.int .i64 c.x.re, .int .i64 c.x.im, .int .i64 c.x.den, .int .i64 c.y.re, .int .i64 c.y.im, .int .i64 c.y.den] ?kl10d ?kl104 ?kl105 ?kl106 ?kl107 ?kl108); (case kl102 => rfl); (case kl101 => rfl); (case kl103 => rfl); (case kl104 => (exact (World.rangeAt_alloc Ho.out _))); (case kl105 => exact Try.underlying26); (case kl106 => rfl); (case kl107 => kernel_rfl)))
      refine (isof_any c _).mono ?_
      rintro e w6 ho
      rw [HV.out] at ho
      obtain ⟨rfl, hb⟩ : e = .returned (.tuple #[.agg #[.int .i64 M.a.re, .int .i64 M.a.im, .int .i64 M.a.den, .int .i64 M.b.re, .int .i64 M.b.im, .int .i64 M.b.den, .int .i64 M.c.re, .int .i64 M.c.im, .int .i64 M.c.den, .int .i64 M.d.re, .int .i64 M.d.im, .int .i64 M.d.den], .bool true]) ∧ Below _ _ _ := ho.fn
      clear ho
      have HB := Lib.hid (show Below w.heap.size w w6 from HB.out.trans ((show Below _ _ _ from ((Below.refl _ _).alloc (by omega) _)).trans (hb.mono (by first | omega | (simp <;> omega)))))
      have Ha : Hid (w6.rangeAt (w1.heap.size) 0 [.int .i64 a.x.re, .int .i64 a.x.im, .int .i64 a.x.den, .int .i64 a.y.re, .int .i64 a.y.im, .int .i64 a.y.den]) := rangeAt_below (World.rangeAt_alloc Ha.out _) hb (by first | omega | (simp; done) | (simp <;> omega))
      have Ho : Hid (w6.rangeAt (w2.heap.size) 0 [.int .i64 c.x.re, .int .i64 c.x.im, .int .i64 c.x.den, .int .i64 c.y.re, .int .i64 c.y.im, .int .i64 c.y.den]) := rangeAt_below (World.rangeAt_alloc Ho.out _) hb (by first | omega | (simp; done) | (simp <;> omega))
      have Hq : Hid (w6.rangeAt (w3.heap.size) 0 [.int .i64 c.x.re, .int .i64 c.x.im, .int .i64 c.x.den, .int .i64 c.y.re, .int .i64 c.y.im, .int .i64 c.y.den]) := rangeAt_below (World.rangeAt_alloc Hq.out _) hb (by first | omega | (simp; done) | (simp <;> omega))
      have Hx : Hid (w6.rangeAt (w4.heap.size) 0 [.int .i64 a.x.re, .int .i64 a.x.im, .int .i64 a.x.den, .int .i64 a.y.re, .int .i64 a.y.im, .int .i64 a.y.den]) := rangeAt_below (World.rangeAt_alloc Hx.out _) hb (by first | omega | (simp; done) | (simp <;> omega))
      have Hu : Hid (w6.rangeAt w5.heap.size 0 [.int .i64 U.a.re, .int .i64 U.a.im, .int .i64 U.a.den, .int .i64 U.b.re, .int .i64 U.b.im, .int .i64 U.b.den, .int .i64 U.c.re, .int .i64 U.c.im, .int .i64 U.c.den, .int .i64 U.d.re, .int .i64 U.d.im, .int .i64 U.d.den]) := rangeAt_below (rangeAt_new _ _ _) hb (by first | omega | (simp; done) | (simp <;> omega))
      have hz6 := hb.size
      (try simp at hz6)
      clear hb
      have nA0 : w1.heap.size < w6.heap.size := by omega
      have nB0 : ¬ w1.heap.size = w6.heap.size := by omega
      have nC0 : ¬ w6.heap.size = w1.heap.size := by omega
      have nA1 : w2.heap.size < w6.heap.size := by omega
      have nB1 : ¬ w2.heap.size = w6.heap.size := by omega
      have nC1 : ¬ w6.heap.size = w2.heap.size := by omega
      have nA2 : w3.heap.size < w6.heap.size := by omega
      have nB2 : ¬ w3.heap.size = w6.heap.size := by omega
      have nC2 : ¬ w6.heap.size = w3.heap.size := by omega
      have nA3 : w4.heap.size < w6.heap.size := by omega
      have nB3 : ¬ w4.heap.size = w6.heap.size := by omega
      have nC3 : ¬ w6.heap.size = w4.heap.size := by omega
      have nA4 : w5.heap.size < w6.heap.size := by omega
      have nB4 : ¬ w5.heap.size = w6.heap.size := by omega
      have nC4 : ¬ w6.heap.size = w5.heap.size := by omega
      go_wp2_with (first | ((with_reducible refine wpList_load_mid ?kl111 45 ?kl11x ?kl112 (w5.heap.size) 0 ?kl113 [.int .i64 U.a.re, .int .i64 U.a.im, .int .i64 U.a.den, .int .i64 U.b.re, .int .i64 U.b.im, .int .i64 U.b.den, .int .i64 U.c.re, .int .i64 U.c.im, .int .i64 U.c.den, .int .i64 U.d.re, .int .i64 U.d.im, .int .i64 U.d.den] ?kl11d ?kl114 ?kl115 ?kl116 ?kl117 ?kl118); (case kl112 => rfl); (case kl111 => rfl); (case kl113 => rfl); (case kl114 => (exact (World.rangeAt_alloc Hu.out _))); (case kl115 => exact Try.underlying45); (case kl116 => rfl); (case kl117 => kernel_rfl)))
      refine (imir_any U _).mono ?_
      rintro e w7 ho
      rw [HX.out] at ho
      obtain ⟨rfl, hb⟩ : e = .returned (.tuple #[.agg #[.int .i64 M.a.re, .int .i64 M.a.im, .int .i64 M.a.den, .int .i64 M.b.re, .int .i64 M.b.im, .int .i64 M.b.den, .int .i64 M.c.re, .int .i64 M.c.im, .int .i64 M.c.den, .int .i64 M.d.re, .int .i64 M.d.im, .int .i64 M.d.den], .bool true]) ∧ Below _ _ _ := ho.fn
      clear ho
      have HB := Lib.hid (show Below w.heap.size w w7 from HB.out.trans ((show Below _ _ _ from ((Below.refl _ _).alloc (by omega) _)).trans (hb.mono (by first | omega | (simp <;> omega)))))
      have Ha : Hid (w7.rangeAt (w1.heap.size) 0 [.int .i64 a.x.re, .int .i64 a.x.im, .int .i64 a.x.den, .int .i64 a.y.re, .int .i64 a.y.im, .int .i64 a.y.den]) := rangeAt_below (World.rangeAt_alloc Ha.out _) hb (by first | omega | (simp; done) | (simp <;> omega))
      have Ho : Hid (w7.rangeAt (w2.heap.size) 0 [.int .i64 c.x.re, .int .i64 c.x.im, .int .i64 c.x.den, .int .i64 c.y.re, .int .i64 c.y.im, .int .i64 c.y.den]) := rangeAt_below (World.rangeAt_alloc Ho.out _) hb (by first | omega | (simp; done) | (simp <;> omega))
      have Hq : Hid (w7.rangeAt (w3.heap.size) 0 [.int .i64 c.x.re, .int .i64 c.x.im, .int .i64 c.x.den, .int .i64 c.y.re, .int .i64 c.y.im, .int .i64 c.y.den]) := rangeAt_below (World.rangeAt_alloc Hq.out _) hb (by first | omega | (simp; done) | (simp <;> omega))
      have Hx : Hid (w7.rangeAt (w4.heap.size) 0 [.int .i64 a.x.re, .int .i64 a.x.im, .int .i64 a.x.den, .int .i64 a.y.re, .int .i64 a.y.im, .int .i64 a.y.den]) := rangeAt_below (World.rangeAt_alloc Hx.out _) hb (by first | omega | (simp; done) | (simp <;> omega))
      have Hu : Hid (w7.rangeAt (w5.heap.size) 0 [.int .i64 U.a.re, .int .i64 U.a.im, .int .i64 U.a.den, .int .i64 U.b.re, .int .i64 U.b.im, .int .i64 U.b.den, .int .i64 U.c.re, .int .i64 U.c.im, .int .i64 U.c.den, .int .i64 U.d.re, .int .i64 U.d.im, .int .i64 U.d.den]) := rangeAt_below (World.rangeAt_alloc Hu.out _) hb (by first | omega | (simp; done) | (simp <;> omega))
      have Hv : Hid (w7.rangeAt w6.heap.size 0 [.int .i64 M.a.re, .int .i64 M.a.im, .int .i64 M.a.den, .int .i64 M.b.re, .int .i64 M.b.im, .int .i64 M.b.den, .int .i64 M.c.re, .int .i64 M.c.im, .int .i64 M.c.den, .int .i64 M.d.re, .int .i64 M.d.im, .int .i64 M.d.den]) := rangeAt_below (rangeAt_new _ _ _) hb (by first | omega | (simp; done) | (simp <;> omega))
      have hz7 := hb.size
      (try simp at hz7)
      clear hb
      have nA0 : w1.heap.size < w7.heap.size := by omega
      have nB0 : ¬ w1.heap.size = w7.heap.size := by omega
      have nC0 : ¬ w7.heap.size = w1.heap.size := by omega
      have nA1 : w2.heap.size < w7.heap.size := by omega
      have nB1 : ¬ w2.heap.size = w7.heap.size := by omega
      have nC1 : ¬ w7.heap.size = w2.heap.size := by omega
      have nA2 : w3.heap.size < w7.heap.size := by omega
      have nB2 : ¬ w3.heap.size = w7.heap.size := by omega
      have nC2 : ¬ w7.heap.size = w3.heap.size := by omega
      have nA3 : w4.heap.size < w7.heap.size := by omega
      have nB3 : ¬ w4.heap.size = w7.heap.size := by omega
      have nC3 : ¬ w7.heap.size = w4.heap.size := by omega
      have nA4 : w5.heap.size < w7.heap.size := by omega
      have nB4 : ¬ w5.heap.size = w7.heap.size := by omega
      have nC4 : ¬ w7.heap.size = w5.heap.size := by omega
      have nA5 : w6.heap.size < w7.heap.size := by omega
      have nB5 : ¬ w6.heap.size = w7.heap.size := by omega
      have nC5 : ¬ w7.heap.size = w6.heap.size := by omega
      have hEq1 : ∀ w, (Op.equalIn 10000 45 (.agg #[.int .i64 M.a.re, .int .i64 M.a.im, .int .i64 M.a.den, .int .i64 M.b.re, .int .i64 M.b.im, .int .i64 M.b.den, .int .i64 M.c.re, .int .i64 M.c.im, .int .i64 M.c.den, .int .i64 M.d.re, .int .i64 M.d.im, .int .i64 M.d.den]) (.agg #[.int .i64 M.a.re, .int .i64 M.a.im, .int .i64 M.a.den, .int .i64 M.b.re, .int .i64 M.b.im, .int .i64 M.b.den, .int .i64 M.c.re, .int .i64 M.c.im, .int .i64 M.c.den, .int .i64 M.d.re, .int .i64 M.d.im, .int .i64 M.d.den])).run Try.prog w = .ok true w := eqStokes_run M
      have zx_0 : w7.cell? ⟨w4.heap.size, 0, none⟩ = some (.int .i64 a.x.re) := by have := Hx.out 0 _ rfl; rwa [Nat.zero_add] at this
      have zx_1 : w7.cell? ⟨w4.heap.size, 1, none⟩ = some (.int .i64 a.x.im) := by have := Hx.out 1 _ rfl; rwa [Nat.zero_add] at this
      have zx_2 : w7.cell? ⟨w4.heap.size, 2, none⟩ = some (.int .i64 a.x.den) := by have := Hx.out 2 _ rfl; rwa [Nat.zero_add] at this
      have zx_3 : w7.cell? ⟨w4.heap.size, 3, none⟩ = some (.int .i64 a.y.re) := by have := Hx.out 3 _ rfl; rwa [Nat.zero_add] at this
      have zx_4 : w7.cell? ⟨w4.heap.size, 4, none⟩ = some (.int .i64 a.y.im) := by have := Hx.out 4 _ rfl; rwa [Nat.zero_add] at this
      have zx_5 : w7.cell? ⟨w4.heap.size, 5, none⟩ = some (.int .i64 a.y.den) := by have := Hx.out 5 _ rfl; rwa [Nat.zero_add] at this
      have za_0 : w7.cell? ⟨w1.heap.size, 0, none⟩ = some (.int .i64 a.x.re) := by have := Ha.out 0 _ rfl; rwa [Nat.zero_add] at this
      have za_1 : w7.cell? ⟨w1.heap.size, 1, none⟩ = some (.int .i64 a.x.im) := by have := Ha.out 1 _ rfl; rwa [Nat.zero_add] at this
      have za_2 : w7.cell? ⟨w1.heap.size, 2, none⟩ = some (.int .i64 a.x.den) := by have := Ha.out 2 _ rfl; rwa [Nat.zero_add] at this
      have za_3 : w7.cell? ⟨w1.heap.size, 3, none⟩ = some (.int .i64 a.y.re) := by have := Ha.out 3 _ rfl; rwa [Nat.zero_add] at this
      have za_4 : w7.cell? ⟨w1.heap.size, 4, none⟩ = some (.int .i64 a.y.im) := by have := Ha.out 4 _ rfl; rwa [Nat.zero_add] at this
      have za_5 : w7.cell? ⟨w1.heap.size, 5, none⟩ = some (.int .i64 a.y.den) := by have := Ha.out 5 _ rfl; rwa [Nat.zero_add] at this
      have zv_0 : w7.cell? ⟨w6.heap.size, 0, none⟩ = some (.int .i64 M.a.re) := by have := Hv.out 0 _ rfl; rwa [Nat.zero_add] at this
      have zv_1 : w7.cell? ⟨w6.heap.size, 1, none⟩ = some (.int .i64 M.a.im) := by have := Hv.out 1 _ rfl; rwa [Nat.zero_add] at this
      have zv_2 : w7.cell? ⟨w6.heap.size, 2, none⟩ = some (.int .i64 M.a.den) := by have := Hv.out 2 _ rfl; rwa [Nat.zero_add] at this
      have zv_3 : w7.cell? ⟨w6.heap.size, 3, none⟩ = some (.int .i64 M.b.re) := by have := Hv.out 3 _ rfl; rwa [Nat.zero_add] at this
      have zv_4 : w7.cell? ⟨w6.heap.size, 4, none⟩ = some (.int .i64 M.b.im) := by have := Hv.out 4 _ rfl; rwa [Nat.zero_add] at this
      have zv_5 : w7.cell? ⟨w6.heap.size, 5, none⟩ = some (.int .i64 M.b.den) := by have := Hv.out 5 _ rfl; rwa [Nat.zero_add] at this
      have zv_6 : w7.cell? ⟨w6.heap.size, 6, none⟩ = some (.int .i64 M.c.re) := by have := Hv.out 6 _ rfl; rwa [Nat.zero_add] at this
      have zv_7 : w7.cell? ⟨w6.heap.size, 7, none⟩ = some (.int .i64 M.c.im) := by have := Hv.out 7 _ rfl; rwa [Nat.zero_add] at this
      have zv_8 : w7.cell? ⟨w6.heap.size, 8, none⟩ = some (.int .i64 M.c.den) := by have := Hv.out 8 _ rfl; rwa [Nat.zero_add] at this
      have zv_9 : w7.cell? ⟨w6.heap.size, 9, none⟩ = some (.int .i64 M.d.re) := by have := Hv.out 9 _ rfl; rwa [Nat.zero_add] at this
      have zv_10 : w7.cell? ⟨w6.heap.size, 10, none⟩ = some (.int .i64 M.d.im) := by have := Hv.out 10 _ rfl; rwa [Nat.zero_add] at this
      have zv_11 : w7.cell? ⟨w6.heap.size, 11, none⟩ = some (.int .i64 M.d.den) := by have := Hv.out 11 _ rfl; rwa [Nat.zero_add] at this
      go_wp2_with fail
      go_ret
      exact ⟨rfl, (by (repeat' first | (with_reducible exact HB.out) | with_reducible refine setCells_below _ _ _ ?_ (by first | omega | (simp <;> omega)) | with_reducible refine Below.setCell ?_ (by show _ ≤ _; first | omega | (simp <;> omega) | simp) _ | with_reducible refine Below.alloc ?_ (by first | omega | (simp <;> omega)) _ | with_reducible apply Below.drew))⟩

set_option maxRecDepth 100000 in
theorem lifted_FnJonesMirror (os : Os) (started : os.Started) (H : Type) (enc : TypeId × Value → H) :
    ReturnsInHanded {} Try.checked os 8 .any (Rows.fnJonesMirrorSpec.pre6 enc Try.prog Try.f8 Rows.fnJonesMirrorRow.domain false) (Rows.fnJonesMirrorSpec.post enc Try.prog Try.f8 false true false false) := by
  refine returnsInHanded_of_change (C := Try.checked) Try.own started (by kernel_rfl) Try.func8
    (ChangeSpec.witness6 (enc := enc) (C := Try.checked) false ⟨#[], #[.slice none 0 0], []⟩ 8 (by kernel_rfl) (by kernel_rfl) (by kernel_rfl) (by kernel_rfl)) ?_
  intro W base args ds gs before hval0 hW hcnd _
  have hval : ∀ (j : Nat) t v, Try.f8.params[j]? = some t → args[j]? = some v → Value.okWide Try.prog W .any base t v := hval0
  have hW' := hW
  obtain ⟨p, q, hA0, hV, rfl, hfz, hnd⟩ := hW
  have hA : DataW.TrodAll enc Try.prog W 0 (fun _ => true) true Try.f8.params.toList args.toList ds p := hA0
  rw [Try.params8] at hA hval
  obtain ⟨v0, d0, rfl, rfl, h0⟩ := trodAll_one hA
  obtain ⟨rfl, rfl⟩ := trodVars_none hV
  have h0k := h0
  obtain ⟨fuel, hf⟩ := h0
  clear hA0 hval0
  simp only [List.append_nil] at hW'
  have hlt : ∀ x ∈ p, x.block < W.heap.size := fun x hx => by simpa using hW'.lt x hx
  obtain ⟨a0, len, cap, rfl⟩ := okWide_slice Try.underlying22 (hval 0 22 v0 rfl rfl)
  obtain ⟨hcap, HC⟩ := open_code hf hlt
  refine (walk_FnJonesMirror a0 len cap W hcap HC).mono fun e W' ⟨he, hb⟩ => ?_
  subst he
  refine ⟨_, rfl, _, _, _, [], p, [], hW', trodAll_mk1 (shut_bool Try.underlying4 _), trodAll_mk1 (Below.trod Try.laidOut (by kernel_rfl) (of_decide_eq_true (by kernel_rfl)) h0k hb (fun x hx => hlt x (by simp [hx]))), rfl, hb.frame _, fun h => by cases h⟩

/-- THE STATEMENT. -/
theorem holds_FnJonesMirror : Rows.FnJonesMirrorSaid :=
  OpenClaim.holds_of_wide 8 Try.f8 rfl rfl rfl rfl rfl rfl rfl ⟨rfl, rfl, rfl, rfl, rfl⟩ rfl rfl rfl rfl rfl (by kernel_rfl) Try.func8 (by kernel_rfl)
    (of_decide_eq_true (by kernel_rfl)) (by unfold Func.isWrapper; first | (rw [if_pos (by decide +kernel)]; kernel_rfl) | (rw [if_neg (by decide +kernel)]; exact ⟨rfl, rfl⟩))
    (fun os started H enc _ => lifted_FnJonesMirror os started H enc)
end Go.Proofs.Ytlmpbijhidnekaa
