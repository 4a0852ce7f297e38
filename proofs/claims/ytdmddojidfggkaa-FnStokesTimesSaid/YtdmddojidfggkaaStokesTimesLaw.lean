/- Multiples of light are light. -/
import Derived.Test.YtdmddojidfggkaaDW
import Derived.Test.YtdmddojidfggkaaQD
import Derived.Test.YtdmddojidfggkaaDW2
namespace Go.Proofs.Ytdmddojidfggkaa
open Go.ChangeShapes Go.WideShapes Go.ChangeAt Go.RowKit Pol

set_option maxRecDepth 100000 in
set_option maxHeartbeats 40000000 in
theorem walk_FnStokesTimes (a0 : Option Addr) (len cap : Nat) (w : World) (hcap : len ≤ cap) (HC : Code w.heap.size w a0 len) :
    Calls Try.prog 8 #[.slice a0 len cap] w fun e w' => e = .returned (.bool true) ∧ Below w.heap.size w w' := by
  by_cases hbig : 1048576 < len
  · have h1 : (1048576 : Int) < (len : Int) := by omega
    go_enter Try.func8, Try.ntmps8
    go_wp2
    go_ret
    exact ⟨rfl, Below.refl _ _⟩
  have h1 : ¬ (1048576 : Int) < (len : Int) := by omega
  go_enter Try.func8, Try.ntmps8
  go_wp2_with fail
  refine (DrawStokesTimes_any a0 len cap _ hcap HC).mono ?_
  rintro e w1 ⟨a, c, rfl, hb⟩
  have HB := Lib.hid (show Below w.heap.size w w1 from hb)
  have hz1 := hb.size
  (try simp at hz1)
  clear hb
  cases hg : (sTim a c).2
  · skip
    have HG : Hid (sTim a c = (m4z, false)) := gt_no hg
    go_wp2_with (first | ((with_reducible refine wpList_load_mid ?kl11 27 ?kl1x ?kl12 (w1.heap.size) 0 ?kl13 [.int .i64 a.a.re, .int .i64 a.a.im, .int .i64 a.a.den, .int .i64 a.b.re, .int .i64 a.b.im, .int .i64 a.b.den, .int .i64 a.c.re, .int .i64 a.c.im, .int .i64 a.c.den, .int .i64 a.d.re, .int .i64 a.d.im, .int .i64 a.d.den] ?kl1d ?kl14 ?kl15 ?kl16 ?kl17 ?kl18); (case kl12 => rfl); (case kl11 => rfl); (case kl13 => rfl); (case kl14 => (exact (World.rangeAt_alloc (rangeAt_new _ _ _) _))); (case kl15 => exact Try.underlying27); (case kl16 => rfl); (case kl17 => kernel_rfl)) | ((with_reducible refine wpList_load_mid ?kl21 24 ?kl2x ?kl22 (w1.heap.size + 1) 0 ?kl23 [.int .i64 c.re, .int .i64 c.im, .int .i64 c.den] ?kl2d ?kl24 ?kl25 ?kl26 ?kl27 ?kl28); (case kl22 => rfl); (case kl21 => rfl); (case kl23 => rfl); (case kl24 => (exact (rangeAt_new2 (by simp)))); (case kl25 => exact Try.underlying24); (case kl26 => rfl); (case kl27 => kernel_rfl)))
    refine (itim4_any a c _).mono ?_
    rintro e w2 ho
    rw [HG.out] at ho
    obtain ⟨rfl, hb⟩ : e = .returned (.tuple #[.agg #[.int .i64 m4z.a.re, .int .i64 m4z.a.im, .int .i64 m4z.a.den, .int .i64 m4z.b.re, .int .i64 m4z.b.im, .int .i64 m4z.b.den, .int .i64 m4z.c.re, .int .i64 m4z.c.im, .int .i64 m4z.c.den, .int .i64 m4z.d.re, .int .i64 m4z.d.im, .int .i64 m4z.d.den], .bool false]) ∧ Below _ _ _ := ho.fn
    clear ho
    have HB := Lib.hid (show Below w.heap.size w w2 from HB.out.trans ((show Below _ _ _ from (((Below.refl _ _).alloc (by omega) _).alloc (by first | omega | (simp; done) | (simp <;> omega)) _)).trans (hb.mono (by first | omega | (simp <;> omega)))))
    have Ha : Hid (w2.rangeAt w1.heap.size 0 [.int .i64 a.a.re, .int .i64 a.a.im, .int .i64 a.a.den, .int .i64 a.b.re, .int .i64 a.b.im, .int .i64 a.b.den, .int .i64 a.c.re, .int .i64 a.c.im, .int .i64 a.c.den, .int .i64 a.d.re, .int .i64 a.d.im, .int .i64 a.d.den]) := rangeAt_below (World.rangeAt_alloc (rangeAt_new _ _ _) _) hb (by first | omega | (simp; done) | (simp <;> omega))
    have Hc : Hid (w2.rangeAt (w1.heap.size + 1) 0 [.int .i64 c.re, .int .i64 c.im, .int .i64 c.den]) := rangeAt_below (rangeAt_new2 (by simp)) hb (by first | omega | (simp; done) | (simp <;> omega))
    have hz2 := hb.size
    (try simp at hz2)
    clear hb
    have nA0 : w1.heap.size < w2.heap.size := by omega
    have nB0 : ¬ w1.heap.size = w2.heap.size := by omega
    have nC0 : ¬ w2.heap.size = w1.heap.size := by omega
    have nA1 : w1.heap.size + 1 < w2.heap.size := by omega
    have nB1 : ¬ w1.heap.size + 1 = w2.heap.size := by omega
    have nC1 : ¬ w2.heap.size = w1.heap.size + 1 := by omega
    go_wp2_with (first | ((with_reducible refine wpList_load_mid ?kl31 27 ?kl3x ?kl32 (w1.heap.size) 0 ?kl33 [.int .i64 a.a.re, .int .i64 a.a.im, .int .i64 a.a.den, .int .i64 a.b.re, .int .i64 a.b.im, .int .i64 a.b.den, .int .i64 a.c.re, .int .i64 a.c.im, .int .i64 a.c.den, .int .i64 a.d.re, .int .i64 a.d.im, .int .i64 a.d.den] ?kl3d ?kl34 ?kl35 ?kl36 ?kl37 ?kl38); (case kl32 => rfl); (case kl31 => rfl); (case kl33 => rfl); (case kl34 => (exact (World.rangeAt_alloc Ha.out _))); (case kl35 => exact Try.underlying27); (case kl36 => rfl); (case kl37 => kernel_rfl)) | ((with_reducible refine wpList_load_mid ?kl41 24 ?kl4x ?kl42 (w1.heap.size + 1) 0 ?kl43 [.int .i64 c.re, .int .i64 c.im, .int .i64 c.den] ?kl4d ?kl44 ?kl45 ?kl46 ?kl47 ?kl48); (case kl42 => rfl); (case kl41 => rfl); (case kl43 => rfl); (case kl44 => (exact (World.rangeAt_alloc Hc.out _))); (case kl45 => exact Try.underlying24); (case kl46 => rfl); (case kl47 => kernel_rfl)))
    refine (stim4_any a c _).mono ?_
    rintro e w3 ho
    rw [HG.out] at ho
    obtain ⟨rfl, hb⟩ : e = .returned (.tuple #[.agg #[.int .i64 m4z.a.re, .int .i64 m4z.a.im, .int .i64 m4z.a.den, .int .i64 m4z.b.re, .int .i64 m4z.b.im, .int .i64 m4z.b.den, .int .i64 m4z.c.re, .int .i64 m4z.c.im, .int .i64 m4z.c.den, .int .i64 m4z.d.re, .int .i64 m4z.d.im, .int .i64 m4z.d.den], .bool false]) ∧ Below _ _ _ := ho.fn
    clear ho
    have HB := Lib.hid (show Below w.heap.size w w3 from HB.out.trans ((show Below _ _ _ from ((Below.refl _ _).alloc (by omega) _)).trans (hb.mono (by first | omega | (simp <;> omega)))))
    have Ha : Hid (w3.rangeAt (w1.heap.size) 0 [.int .i64 a.a.re, .int .i64 a.a.im, .int .i64 a.a.den, .int .i64 a.b.re, .int .i64 a.b.im, .int .i64 a.b.den, .int .i64 a.c.re, .int .i64 a.c.im, .int .i64 a.c.den, .int .i64 a.d.re, .int .i64 a.d.im, .int .i64 a.d.den]) := rangeAt_below (World.rangeAt_alloc Ha.out _) hb (by first | omega | (simp; done) | (simp <;> omega))
    have Hc : Hid (w3.rangeAt (w1.heap.size + 1) 0 [.int .i64 c.re, .int .i64 c.im, .int .i64 c.den]) := rangeAt_below (World.rangeAt_alloc Hc.out _) hb (by first | omega | (simp; done) | (simp <;> omega))
    have Ho : Hid (w3.rangeAt w2.heap.size 0 [.int .i64 m4z.a.re, .int .i64 m4z.a.im, .int .i64 m4z.a.den, .int .i64 m4z.b.re, .int .i64 m4z.b.im, .int .i64 m4z.b.den, .int .i64 m4z.c.re, .int .i64 m4z.c.im, .int .i64 m4z.c.den, .int .i64 m4z.d.re, .int .i64 m4z.d.im, .int .i64 m4z.d.den]) := rangeAt_below (rangeAt_new _ _ _) hb (by first | omega | (simp; done) | (simp <;> omega))
    have hz3 := hb.size
    (try simp at hz3)
    clear hb
    have nA0 : w1.heap.size < w3.heap.size := by omega
    have nB0 : ¬ w1.heap.size = w3.heap.size := by omega
    have nC0 : ¬ w3.heap.size = w1.heap.size := by omega
    have nA1 : w1.heap.size + 1 < w3.heap.size := by omega
    have nB1 : ¬ w1.heap.size + 1 = w3.heap.size := by omega
    have nC1 : ¬ w3.heap.size = w1.heap.size + 1 := by omega
    have nA2 : w2.heap.size < w3.heap.size := by omega
    have nB2 : ¬ w2.heap.size = w3.heap.size := by omega
    have nC2 : ¬ w3.heap.size = w2.heap.size := by omega
    have hEq1 : ∀ w, (Op.equalIn 10000 27 (.agg #[.int .i64 m4z.a.re, .int .i64 m4z.a.im, .int .i64 m4z.a.den, .int .i64 m4z.b.re, .int .i64 m4z.b.im, .int .i64 m4z.b.den, .int .i64 m4z.c.re, .int .i64 m4z.c.im, .int .i64 m4z.c.den, .int .i64 m4z.d.re, .int .i64 m4z.d.im, .int .i64 m4z.d.den]) (.agg #[.int .i64 m4z.a.re, .int .i64 m4z.a.im, .int .i64 m4z.a.den, .int .i64 m4z.b.re, .int .i64 m4z.b.im, .int .i64 m4z.b.den, .int .i64 m4z.c.re, .int .i64 m4z.c.im, .int .i64 m4z.c.den, .int .i64 m4z.d.re, .int .i64 m4z.d.im, .int .i64 m4z.d.den])).run Try.prog w = .ok true w := eqStokes_run m4z
    have zo_0 : w3.cell? ⟨w2.heap.size, 0, none⟩ = some (.int .i64 m4z.a.re) := by have := Ho.out 0 _ rfl; rwa [Nat.zero_add] at this
    have zo_1 : w3.cell? ⟨w2.heap.size, 1, none⟩ = some (.int .i64 m4z.a.im) := by have := Ho.out 1 _ rfl; rwa [Nat.zero_add] at this
    have zo_2 : w3.cell? ⟨w2.heap.size, 2, none⟩ = some (.int .i64 m4z.a.den) := by have := Ho.out 2 _ rfl; rwa [Nat.zero_add] at this
    have zo_3 : w3.cell? ⟨w2.heap.size, 3, none⟩ = some (.int .i64 m4z.b.re) := by have := Ho.out 3 _ rfl; rwa [Nat.zero_add] at this
    have zo_4 : w3.cell? ⟨w2.heap.size, 4, none⟩ = some (.int .i64 m4z.b.im) := by have := Ho.out 4 _ rfl; rwa [Nat.zero_add] at this
    have zo_5 : w3.cell? ⟨w2.heap.size, 5, none⟩ = some (.int .i64 m4z.b.den) := by have := Ho.out 5 _ rfl; rwa [Nat.zero_add] at this
    have zo_6 : w3.cell? ⟨w2.heap.size, 6, none⟩ = some (.int .i64 m4z.c.re) := by have := Ho.out 6 _ rfl; rwa [Nat.zero_add] at this
    have zo_7 : w3.cell? ⟨w2.heap.size, 7, none⟩ = some (.int .i64 m4z.c.im) := by have := Ho.out 7 _ rfl; rwa [Nat.zero_add] at this
    have zo_8 : w3.cell? ⟨w2.heap.size, 8, none⟩ = some (.int .i64 m4z.c.den) := by have := Ho.out 8 _ rfl; rwa [Nat.zero_add] at this
    have zo_9 : w3.cell? ⟨w2.heap.size, 9, none⟩ = some (.int .i64 m4z.d.re) := by have := Ho.out 9 _ rfl; rwa [Nat.zero_add] at this
    have zo_10 : w3.cell? ⟨w2.heap.size, 10, none⟩ = some (.int .i64 m4z.d.im) := by have := Ho.out 10 _ rfl; rwa [Nat.zero_add] at this
    have zo_11 : w3.cell? ⟨w2.heap.size, 11, none⟩ = some (.int .i64 m4z.d.den) := by have := Ho.out 11 _ rfl; rwa [Nat.zero_add] at this
    go_wp2_with fail
    go_ret
    exact ⟨rfl, (by (repeat' first | (with_reducible exact HB.out) | with_reducible refine setCells_below _ _ _ ?_ (by first | omega | (simp <;> omega)) | with_reducible refine Below.setCell ?_ (by show _ ≤ _; first | omega | (simp <;> omega) | simp) _ | with_reducible refine Below.alloc ?_ (by first | omega | (simp <;> omega)) _ | with_reducible apply Below.drew))⟩
  · skip
    have hlaw := @law_times a c hg
    obtain ⟨m, hm⟩ : ∃ m, m = (sTim a c).1 := ⟨_, rfl⟩
    have HG : Hid (sTim a c = (m, true)) := by show _ = _; rw [hm, ← hg]
    rw [← hm] at hlaw
    clear hm hg
    go_wp2_with (first | ((with_reducible refine wpList_load_mid ?kl51 27 ?kl5x ?kl52 (w1.heap.size) 0 ?kl53 [.int .i64 a.a.re, .int .i64 a.a.im, .int .i64 a.a.den, .int .i64 a.b.re, .int .i64 a.b.im, .int .i64 a.b.den, .int .i64 a.c.re, .int .i64 a.c.im, .int .i64 a.c.den, .int .i64 a.d.re, .int .i64 a.d.im, .int .i64 a.d.den] ?kl5d ?kl54 ?kl55 ?kl56 ?kl57 ?kl58); (case kl52 => rfl); (case kl51 => rfl); (case kl53 => rfl); (case kl54 => (exact (World.rangeAt_alloc (rangeAt_new _ _ _) _))); (case kl55 => exact Try.underlying27); (case kl56 => rfl); (case kl57 => kernel_rfl)) | ((with_reducible refine wpList_load_mid ?kl61 24 ?kl6x ?kl62 (w1.heap.size + 1) 0 ?kl63 [.int .i64 c.re, .int .i64 c.im, .int .i64 c.den] ?kl6d ?kl64 ?kl65 ?kl66 ?kl67 ?kl68); (case kl62 => rfl); (case kl61 => rfl); (case kl63 => rfl); (case kl64 => (exact (rangeAt_new2 (by simp)))); (case kl65 => exact Try.underlying24); (case kl66 => rfl); (case kl67 => kernel_rfl)))
    refine (itim4_any a c _).mono ?_
    rintro e w2 ho
    rw [HG.out] at ho
    obtain ⟨rfl, hb⟩ : e = .returned (.tuple #[.agg #[.int .i64 m.a.re, .int .i64 m.a.im, .int .i64 m.a.den, .int .i64 m.b.re, .int .i64 m.b.im, .int .i64 m.b.den, .int .i64 m.c.re, .int .i64 m.c.im, .int .i64 m.c.den, .int .i64 m.d.re, .int .i64 m.d.im, .int .i64 m.d.den], .bool true]) ∧ Below _ _ _ := ho.fn
    clear ho
    have HB := Lib.hid (show Below w.heap.size w w2 from HB.out.trans ((show Below _ _ _ from (((Below.refl _ _).alloc (by omega) _).alloc (by first | omega | (simp; done) | (simp <;> omega)) _)).trans (hb.mono (by first | omega | (simp <;> omega)))))
    have Ha : Hid (w2.rangeAt w1.heap.size 0 [.int .i64 a.a.re, .int .i64 a.a.im, .int .i64 a.a.den, .int .i64 a.b.re, .int .i64 a.b.im, .int .i64 a.b.den, .int .i64 a.c.re, .int .i64 a.c.im, .int .i64 a.c.den, .int .i64 a.d.re, .int .i64 a.d.im, .int .i64 a.d.den]) := rangeAt_below (World.rangeAt_alloc (rangeAt_new _ _ _) _) hb (by first | omega | (simp; done) | (simp <;> omega))
    have Hc : Hid (w2.rangeAt (w1.heap.size + 1) 0 [.int .i64 c.re, .int .i64 c.im, .int .i64 c.den]) := rangeAt_below (rangeAt_new2 (by simp)) hb (by first | omega | (simp; done) | (simp <;> omega))
    have hz2 := hb.size
    (try simp at hz2)
    clear hb
    have nA0 : w1.heap.size < w2.heap.size := by omega
    have nB0 : ¬ w1.heap.size = w2.heap.size := by omega
    have nC0 : ¬ w2.heap.size = w1.heap.size := by omega
    have nA1 : w1.heap.size + 1 < w2.heap.size := by omega
    have nB1 : ¬ w1.heap.size + 1 = w2.heap.size := by omega
    have nC1 : ¬ w2.heap.size = w1.heap.size + 1 := by omega
    go_wp2_with (first | ((with_reducible refine wpList_load_mid ?kl71 27 ?kl7x ?kl72 (w1.heap.size) 0 ?kl73 [.int .i64 a.a.re, .int .i64 a.a.im, .int .i64 a.a.den, .int .i64 a.b.re, .int .i64 a.b.im, .int .i64 a.b.den, .int .i64 a.c.re, .int .i64 a.c.im, .int .i64 a.c.den, .int .i64 a.d.re, .int .i64 a.d.im, .int .i64 a.d.den] ?kl7d ?kl74 ?kl75 ?kl76 ?kl77 ?kl78); (case kl72 => rfl); (case kl71 => rfl); (case kl73 => rfl); (case kl74 => (exact (World.rangeAt_alloc Ha.out _))); (case kl75 => exact Try.underlying27); (case kl76 => rfl); (case kl77 => kernel_rfl)) | ((with_reducible refine wpList_load_mid ?kl81 24 ?kl8x ?kl82 (w1.heap.size + 1) 0 ?kl83 [.int .i64 c.re, .int .i64 c.im, .int .i64 c.den] ?kl8d ?kl84 ?kl85 ?kl86 ?kl87 ?kl88); (case kl82 => rfl); (case kl81 => rfl); (case kl83 => rfl); (case kl84 => (exact (World.rangeAt_alloc Hc.out _))); (case kl85 => exact Try.underlying24); (case kl86 => rfl); (case kl87 => kernel_rfl)))
    refine (stim4_any a c _).mono ?_
    rintro e w3 ho
    rw [HG.out] at ho
    obtain ⟨rfl, hb⟩ : e = .returned (.tuple #[.agg #[.int .i64 m.a.re, .int .i64 m.a.im, .int .i64 m.a.den, .int .i64 m.b.re, .int .i64 m.b.im, .int .i64 m.b.den, .int .i64 m.c.re, .int .i64 m.c.im, .int .i64 m.c.den, .int .i64 m.d.re, .int .i64 m.d.im, .int .i64 m.d.den], .bool true]) ∧ Below _ _ _ := ho.fn
    clear ho
    have HB := Lib.hid (show Below w.heap.size w w3 from HB.out.trans ((show Below _ _ _ from ((Below.refl _ _).alloc (by omega) _)).trans (hb.mono (by first | omega | (simp <;> omega)))))
    have Ha : Hid (w3.rangeAt (w1.heap.size) 0 [.int .i64 a.a.re, .int .i64 a.a.im, .int .i64 a.a.den, .int .i64 a.b.re, .int .i64 a.b.im, .int .i64 a.b.den, .int .i64 a.c.re, .int .i64 a.c.im, .int .i64 a.c.den, .int .i64 a.d.re, .int .i64 a.d.im, .int .i64 a.d.den]) := rangeAt_below (World.rangeAt_alloc Ha.out _) hb (by first | omega | (simp; done) | (simp <;> omega))
    have Hc : Hid (w3.rangeAt (w1.heap.size + 1) 0 [.int .i64 c.re, .int .i64 c.im, .int .i64 c.den]) := rangeAt_below (World.rangeAt_alloc Hc.out _) hb (by first | omega | (simp; done) | (simp <;> omega))
    have Ho : Hid (w3.rangeAt w2.heap.size 0 [.int .i64 m.a.re, .int .i64 m.a.im, .int .i64 m.a.den, .int .i64 m.b.re, .int .i64 m.b.im, .int .i64 m.b.den, .int .i64 m.c.re, .int .i64 m.c.im, .int .i64 m.c.den, .int .i64 m.d.re, .int .i64 m.d.im, .int .i64 m.d.den]) := rangeAt_below (rangeAt_new _ _ _) hb (by first | omega | (simp; done) | (simp <;> omega))
    have hz3 := hb.size
    (try simp at hz3)
    clear hb
    have nA0 : w1.heap.size < w3.heap.size := by omega
    have nB0 : ¬ w1.heap.size = w3.heap.size := by omega
    have nC0 : ¬ w3.heap.size = w1.heap.size := by omega
    have nA1 : w1.heap.size + 1 < w3.heap.size := by omega
    have nB1 : ¬ w1.heap.size + 1 = w3.heap.size := by omega
    have nC1 : ¬ w3.heap.size = w1.heap.size + 1 := by omega
    have nA2 : w2.heap.size < w3.heap.size := by omega
    have nB2 : ¬ w2.heap.size = w3.heap.size := by omega
    have nC2 : ¬ w3.heap.size = w2.heap.size := by omega
    have hEq1 : ∀ w, (Op.equalIn 10000 27 (.agg #[.int .i64 m.a.re, .int .i64 m.a.im, .int .i64 m.a.den, .int .i64 m.b.re, .int .i64 m.b.im, .int .i64 m.b.den, .int .i64 m.c.re, .int .i64 m.c.im, .int .i64 m.c.den, .int .i64 m.d.re, .int .i64 m.d.im, .int .i64 m.d.den]) (.agg #[.int .i64 m.a.re, .int .i64 m.a.im, .int .i64 m.a.den, .int .i64 m.b.re, .int .i64 m.b.im, .int .i64 m.b.den, .int .i64 m.c.re, .int .i64 m.c.im, .int .i64 m.c.den, .int .i64 m.d.re, .int .i64 m.d.im, .int .i64 m.d.den])).run Try.prog w = .ok true w := eqStokes_run m
    have zo_0 : w3.cell? ⟨w2.heap.size, 0, none⟩ = some (.int .i64 m.a.re) := by have := Ho.out 0 _ rfl; rwa [Nat.zero_add] at this
    have zo_1 : w3.cell? ⟨w2.heap.size, 1, none⟩ = some (.int .i64 m.a.im) := by have := Ho.out 1 _ rfl; rwa [Nat.zero_add] at this
    have zo_2 : w3.cell? ⟨w2.heap.size, 2, none⟩ = some (.int .i64 m.a.den) := by have := Ho.out 2 _ rfl; rwa [Nat.zero_add] at this
    have zo_3 : w3.cell? ⟨w2.heap.size, 3, none⟩ = some (.int .i64 m.b.re) := by have := Ho.out 3 _ rfl; rwa [Nat.zero_add] at this
    have zo_4 : w3.cell? ⟨w2.heap.size, 4, none⟩ = some (.int .i64 m.b.im) := by have := Ho.out 4 _ rfl; rwa [Nat.zero_add] at this
    have zo_5 : w3.cell? ⟨w2.heap.size, 5, none⟩ = some (.int .i64 m.b.den) := by have := Ho.out 5 _ rfl; rwa [Nat.zero_add] at this
    have zo_6 : w3.cell? ⟨w2.heap.size, 6, none⟩ = some (.int .i64 m.c.re) := by have := Ho.out 6 _ rfl; rwa [Nat.zero_add] at this
    have zo_7 : w3.cell? ⟨w2.heap.size, 7, none⟩ = some (.int .i64 m.c.im) := by have := Ho.out 7 _ rfl; rwa [Nat.zero_add] at this
    have zo_8 : w3.cell? ⟨w2.heap.size, 8, none⟩ = some (.int .i64 m.c.den) := by have := Ho.out 8 _ rfl; rwa [Nat.zero_add] at this
    have zo_9 : w3.cell? ⟨w2.heap.size, 9, none⟩ = some (.int .i64 m.d.re) := by have := Ho.out 9 _ rfl; rwa [Nat.zero_add] at this
    have zo_10 : w3.cell? ⟨w2.heap.size, 10, none⟩ = some (.int .i64 m.d.im) := by have := Ho.out 10 _ rfl; rwa [Nat.zero_add] at this
    have zo_11 : w3.cell? ⟨w2.heap.size, 11, none⟩ = some (.int .i64 m.d.den) := by have := Ho.out 11 _ rfl; rwa [Nat.zero_add] at this
    obtain ⟨s, hs⟩ : ∃ s, s = (sSq m).1 := ⟨_, rfl⟩
    obtain ⟨b1, hb1⟩ : ∃ b, b = (sSq m).2 := ⟨_, rfl⟩
    have HS : Hid (sSq m = (s, b1)) := by show _ = _; rw [hs, hb1]
    have HB1 := Lib.hid hb1
    clear hs hb1
    go_wp2_with (first | ((with_reducible refine wpList_load_mid ?kl91 27 ?kl9x ?kl92 (w2.heap.size) 0 ?kl93 [.int .i64 m.a.re, .int .i64 m.a.im, .int .i64 m.a.den, .int .i64 m.b.re, .int .i64 m.b.im, .int .i64 m.b.den, .int .i64 m.c.re, .int .i64 m.c.im, .int .i64 m.c.den, .int .i64 m.d.re, .int .i64 m.d.im, .int .i64 m.d.den] ?kl9d ?kl94 ?kl95 ?kl96 ?kl97 ?kl98); (case kl92 => rfl); (case kl91 => rfl); (case kl93 => rfl); (case kl94 => (exact (World.rangeAt_alloc Ho.out _))); (case kl95 => exact Try.underlying27); (case kl96 => rfl); (case kl97 => kernel_rfl)))
    refine (isq_any m _).mono ?_
    rintro e w4 ho
    rw [HS.out] at ho
    obtain ⟨rfl, hb⟩ : e = .returned (.tuple #[.agg #[.int .i64 s.re, .int .i64 s.im, .int .i64 s.den], .bool b1]) ∧ Below _ _ _ := ho.fn
    clear ho
    have HB := Lib.hid (show Below w.heap.size w w4 from HB.out.trans ((show Below _ _ _ from ((Below.refl _ _).alloc (by omega) _)).trans (hb.mono (by first | omega | (simp <;> omega)))))
    have Ha : Hid (w4.rangeAt (w1.heap.size) 0 [.int .i64 a.a.re, .int .i64 a.a.im, .int .i64 a.a.den, .int .i64 a.b.re, .int .i64 a.b.im, .int .i64 a.b.den, .int .i64 a.c.re, .int .i64 a.c.im, .int .i64 a.c.den, .int .i64 a.d.re, .int .i64 a.d.im, .int .i64 a.d.den]) := rangeAt_below (World.rangeAt_alloc Ha.out _) hb (by first | omega | (simp; done) | (simp <;> omega))
    have Hc : Hid (w4.rangeAt (w1.heap.size + 1) 0 [.int .i64 c.re, .int .i64 c.im, .int .i64 c.den]) := rangeAt_below (World.rangeAt_alloc Hc.out _) hb (by first | omega | (simp; done) | (simp <;> omega))
    have Ho : Hid (w4.rangeAt (w2.heap.size) 0 [.int .i64 m.a.re, .int .i64 m.a.im, .int .i64 m.a.den, .int .i64 m.b.re, .int .i64 m.b.im, .int .i64 m.b.den, .int .i64 m.c.re, .int .i64 m.c.im, .int .i64 m.c.den, .int .i64 m.d.re, .int .i64 m.d.im, .int .i64 m.d.den]) := rangeAt_below (World.rangeAt_alloc Ho.out _) hb (by first | omega | (simp; done) | (simp <;> omega))
    have Hq : Hid (w4.rangeAt w3.heap.size 0 [.int .i64 m.a.re, .int .i64 m.a.im, .int .i64 m.a.den, .int .i64 m.b.re, .int .i64 m.b.im, .int .i64 m.b.den, .int .i64 m.c.re, .int .i64 m.c.im, .int .i64 m.c.den, .int .i64 m.d.re, .int .i64 m.d.im, .int .i64 m.d.den]) := rangeAt_below (rangeAt_new _ _ _) hb (by first | omega | (simp; done) | (simp <;> omega))
    have hz4 := hb.size
    (try simp at hz4)
    clear hb
    have nA0 : w1.heap.size < w4.heap.size := by omega
    have nB0 : ¬ w1.heap.size = w4.heap.size := by omega
    have nC0 : ¬ w4.heap.size = w1.heap.size := by omega
    have nA1 : w1.heap.size + 1 < w4.heap.size := by omega
    have nB1 : ¬ w1.heap.size + 1 = w4.heap.size := by omega
    have nC1 : ¬ w4.heap.size = w1.heap.size + 1 := by omega
    have nA2 : w2.heap.size < w4.heap.size := by omega
    have nB2 : ¬ w2.heap.size = w4.heap.size := by omega
    have nC2 : ¬ w4.heap.size = w2.heap.size := by omega
    have nA3 : w3.heap.size < w4.heap.size := by omega
    have nB3 : ¬ w3.heap.size = w4.heap.size := by omega
    have nC3 : ¬ w4.heap.size = w3.heap.size := by omega
    have zo_0 : w4.cell? ⟨w2.heap.size, 0, none⟩ = some (.int .i64 m.a.re) := by have := Ho.out 0 _ rfl; rwa [Nat.zero_add] at this
    have zo_1 : w4.cell? ⟨w2.heap.size, 1, none⟩ = some (.int .i64 m.a.im) := by have := Ho.out 1 _ rfl; rwa [Nat.zero_add] at this
    have zo_2 : w4.cell? ⟨w2.heap.size, 2, none⟩ = some (.int .i64 m.a.den) := by have := Ho.out 2 _ rfl; rwa [Nat.zero_add] at this
    have zo_3 : w4.cell? ⟨w2.heap.size, 3, none⟩ = some (.int .i64 m.b.re) := by have := Ho.out 3 _ rfl; rwa [Nat.zero_add] at this
    have zo_4 : w4.cell? ⟨w2.heap.size, 4, none⟩ = some (.int .i64 m.b.im) := by have := Ho.out 4 _ rfl; rwa [Nat.zero_add] at this
    have zo_5 : w4.cell? ⟨w2.heap.size, 5, none⟩ = some (.int .i64 m.b.den) := by have := Ho.out 5 _ rfl; rwa [Nat.zero_add] at this
    have zo_6 : w4.cell? ⟨w2.heap.size, 6, none⟩ = some (.int .i64 m.c.re) := by have := Ho.out 6 _ rfl; rwa [Nat.zero_add] at this
    have zo_7 : w4.cell? ⟨w2.heap.size, 7, none⟩ = some (.int .i64 m.c.im) := by have := Ho.out 7 _ rfl; rwa [Nat.zero_add] at this
    have zo_8 : w4.cell? ⟨w2.heap.size, 8, none⟩ = some (.int .i64 m.c.den) := by have := Ho.out 8 _ rfl; rwa [Nat.zero_add] at this
    have zo_9 : w4.cell? ⟨w2.heap.size, 9, none⟩ = some (.int .i64 m.d.re) := by have := Ho.out 9 _ rfl; rwa [Nat.zero_add] at this
    have zo_10 : w4.cell? ⟨w2.heap.size, 10, none⟩ = some (.int .i64 m.d.im) := by have := Ho.out 10 _ rfl; rwa [Nat.zero_add] at this
    have zo_11 : w4.cell? ⟨w2.heap.size, 11, none⟩ = some (.int .i64 m.d.den) := by have := Ho.out 11 _ rfl; rwa [Nat.zero_add] at this
    obtain ⟨t, ht⟩ : ∃ t, t = (fTimes m.a m.a).1 := ⟨_, rfl⟩
    obtain ⟨b2, hb2⟩ : ∃ b, b = (fTimes m.a m.a).2 := ⟨_, rfl⟩
    have HF : Hid (fTimes m.a m.a = (t, b2)) := by show _ = _; rw [ht, hb2]
    have HB2 := Lib.hid hb2
    clear ht hb2
    go_wp2_with fail
    refine (times_fr m.a m.a _).mono ?_
    rintro e w5 ho
    rw [HF.out] at ho
    obtain ⟨rfl, hb⟩ : e = .returned (.tuple #[.agg #[.int .i64 t.re, .int .i64 t.im, .int .i64 t.den], .bool b2]) ∧ Below _ _ _ := ho.fn
    clear ho
    have HB := Lib.hid (show Below w.heap.size w w5 from HB.out.trans ((show Below _ _ _ from ((Below.refl _ _).alloc (by omega) _)).trans (hb.mono (by first | omega | (simp <;> omega)))))
    have Ha : Hid (w5.rangeAt (w1.heap.size) 0 [.int .i64 a.a.re, .int .i64 a.a.im, .int .i64 a.a.den, .int .i64 a.b.re, .int .i64 a.b.im, .int .i64 a.b.den, .int .i64 a.c.re, .int .i64 a.c.im, .int .i64 a.c.den, .int .i64 a.d.re, .int .i64 a.d.im, .int .i64 a.d.den]) := rangeAt_below (World.rangeAt_alloc Ha.out _) hb (by first | omega | (simp; done) | (simp <;> omega))
    have Hc : Hid (w5.rangeAt (w1.heap.size + 1) 0 [.int .i64 c.re, .int .i64 c.im, .int .i64 c.den]) := rangeAt_below (World.rangeAt_alloc Hc.out _) hb (by first | omega | (simp; done) | (simp <;> omega))
    have Ho : Hid (w5.rangeAt (w2.heap.size) 0 [.int .i64 m.a.re, .int .i64 m.a.im, .int .i64 m.a.den, .int .i64 m.b.re, .int .i64 m.b.im, .int .i64 m.b.den, .int .i64 m.c.re, .int .i64 m.c.im, .int .i64 m.c.den, .int .i64 m.d.re, .int .i64 m.d.im, .int .i64 m.d.den]) := rangeAt_below (World.rangeAt_alloc Ho.out _) hb (by first | omega | (simp; done) | (simp <;> omega))
    have Hq : Hid (w5.rangeAt (w3.heap.size) 0 [.int .i64 m.a.re, .int .i64 m.a.im, .int .i64 m.a.den, .int .i64 m.b.re, .int .i64 m.b.im, .int .i64 m.b.den, .int .i64 m.c.re, .int .i64 m.c.im, .int .i64 m.c.den, .int .i64 m.d.re, .int .i64 m.d.im, .int .i64 m.d.den]) := rangeAt_below (World.rangeAt_alloc Hq.out _) hb (by first | omega | (simp; done) | (simp <;> omega))
    have Hs1 : Hid (w5.rangeAt w4.heap.size 0 [.int .i64 s.re, .int .i64 s.im, .int .i64 s.den]) := rangeAt_below (rangeAt_new _ _ _) hb (by first | omega | (simp; done) | (simp <;> omega))
    have hz5 := hb.size
    (try simp at hz5)
    clear hb
    have nA0 : w1.heap.size < w5.heap.size := by omega
    have nB0 : ¬ w1.heap.size = w5.heap.size := by omega
    have nC0 : ¬ w5.heap.size = w1.heap.size := by omega
    have nA1 : w1.heap.size + 1 < w5.heap.size := by omega
    have nB1 : ¬ w1.heap.size + 1 = w5.heap.size := by omega
    have nC1 : ¬ w5.heap.size = w1.heap.size + 1 := by omega
    have nA2 : w2.heap.size < w5.heap.size := by omega
    have nB2 : ¬ w2.heap.size = w5.heap.size := by omega
    have nC2 : ¬ w5.heap.size = w2.heap.size := by omega
    have nA3 : w3.heap.size < w5.heap.size := by omega
    have nB3 : ¬ w3.heap.size = w5.heap.size := by omega
    have nC3 : ¬ w5.heap.size = w3.heap.size := by omega
    have nA4 : w4.heap.size < w5.heap.size := by omega
    have nB4 : ¬ w4.heap.size = w5.heap.size := by omega
    have nC4 : ¬ w5.heap.size = w4.heap.size := by omega
    have za_0 : w5.cell? ⟨w1.heap.size, 0, none⟩ = some (.int .i64 a.a.re) := by have := Ha.out 0 _ rfl; rwa [Nat.zero_add] at this
    have za_1 : w5.cell? ⟨w1.heap.size, 1, none⟩ = some (.int .i64 a.a.im) := by have := Ha.out 1 _ rfl; rwa [Nat.zero_add] at this
    have za_2 : w5.cell? ⟨w1.heap.size, 2, none⟩ = some (.int .i64 a.a.den) := by have := Ha.out 2 _ rfl; rwa [Nat.zero_add] at this
    have za_3 : w5.cell? ⟨w1.heap.size, 3, none⟩ = some (.int .i64 a.b.re) := by have := Ha.out 3 _ rfl; rwa [Nat.zero_add] at this
    have za_4 : w5.cell? ⟨w1.heap.size, 4, none⟩ = some (.int .i64 a.b.im) := by have := Ha.out 4 _ rfl; rwa [Nat.zero_add] at this
    have za_5 : w5.cell? ⟨w1.heap.size, 5, none⟩ = some (.int .i64 a.b.den) := by have := Ha.out 5 _ rfl; rwa [Nat.zero_add] at this
    have za_6 : w5.cell? ⟨w1.heap.size, 6, none⟩ = some (.int .i64 a.c.re) := by have := Ha.out 6 _ rfl; rwa [Nat.zero_add] at this
    have za_7 : w5.cell? ⟨w1.heap.size, 7, none⟩ = some (.int .i64 a.c.im) := by have := Ha.out 7 _ rfl; rwa [Nat.zero_add] at this
    have za_8 : w5.cell? ⟨w1.heap.size, 8, none⟩ = some (.int .i64 a.c.den) := by have := Ha.out 8 _ rfl; rwa [Nat.zero_add] at this
    have za_9 : w5.cell? ⟨w1.heap.size, 9, none⟩ = some (.int .i64 a.d.re) := by have := Ha.out 9 _ rfl; rwa [Nat.zero_add] at this
    have za_10 : w5.cell? ⟨w1.heap.size, 10, none⟩ = some (.int .i64 a.d.im) := by have := Ha.out 10 _ rfl; rwa [Nat.zero_add] at this
    have za_11 : w5.cell? ⟨w1.heap.size, 11, none⟩ = some (.int .i64 a.d.den) := by have := Ha.out 11 _ rfl; rwa [Nat.zero_add] at this
    have zo_0 : w5.cell? ⟨w2.heap.size, 0, none⟩ = some (.int .i64 m.a.re) := by have := Ho.out 0 _ rfl; rwa [Nat.zero_add] at this
    have zo_1 : w5.cell? ⟨w2.heap.size, 1, none⟩ = some (.int .i64 m.a.im) := by have := Ho.out 1 _ rfl; rwa [Nat.zero_add] at this
    have zo_2 : w5.cell? ⟨w2.heap.size, 2, none⟩ = some (.int .i64 m.a.den) := by have := Ho.out 2 _ rfl; rwa [Nat.zero_add] at this
    have zo_3 : w5.cell? ⟨w2.heap.size, 3, none⟩ = some (.int .i64 m.b.re) := by have := Ho.out 3 _ rfl; rwa [Nat.zero_add] at this
    have zo_4 : w5.cell? ⟨w2.heap.size, 4, none⟩ = some (.int .i64 m.b.im) := by have := Ho.out 4 _ rfl; rwa [Nat.zero_add] at this
    have zo_5 : w5.cell? ⟨w2.heap.size, 5, none⟩ = some (.int .i64 m.b.den) := by have := Ho.out 5 _ rfl; rwa [Nat.zero_add] at this
    have zo_6 : w5.cell? ⟨w2.heap.size, 6, none⟩ = some (.int .i64 m.c.re) := by have := Ho.out 6 _ rfl; rwa [Nat.zero_add] at this
    have zo_7 : w5.cell? ⟨w2.heap.size, 7, none⟩ = some (.int .i64 m.c.im) := by have := Ho.out 7 _ rfl; rwa [Nat.zero_add] at this
    have zo_8 : w5.cell? ⟨w2.heap.size, 8, none⟩ = some (.int .i64 m.c.den) := by have := Ho.out 8 _ rfl; rwa [Nat.zero_add] at this
    have zo_9 : w5.cell? ⟨w2.heap.size, 9, none⟩ = some (.int .i64 m.d.re) := by have := Ho.out 9 _ rfl; rwa [Nat.zero_add] at this
    have zo_10 : w5.cell? ⟨w2.heap.size, 10, none⟩ = some (.int .i64 m.d.im) := by have := Ho.out 10 _ rfl; rwa [Nat.zero_add] at this
    have zo_11 : w5.cell? ⟨w2.heap.size, 11, none⟩ = some (.int .i64 m.d.den) := by have := Ho.out 11 _ rfl; rwa [Nat.zero_add] at this
    have zc_0 : w5.cell? ⟨w1.heap.size + 1, 0, none⟩ = some (.int .i64 c.re) := by have := Hc.out 0 _ rfl; rwa [Nat.zero_add] at this
    by_cases hcr : c.re < 0
    · skip
      go_wp2_with fail
      go_ret
      exact ⟨rfl, (by (repeat' first | (with_reducible exact HB.out) | with_reducible refine setCells_below _ _ _ ?_ (by first | omega | (simp <;> omega)) | with_reducible refine Below.setCell ?_ (by show _ ≤ _; first | omega | (simp <;> omega) | simp) _ | with_reducible refine Below.alloc ?_ (by first | omega | (simp <;> omega)) _ | with_reducible apply Below.drew))⟩
    · cases hl : gLight a
      · skip
        go_wp2_with fail
        refine (ilight_any a _).mono ?_
        rintro e w6 ho
        rw [hl] at ho
        obtain ⟨rfl, hb⟩ : e = .returned (.bool false) ∧ Below _ _ _ := (id ho)
        clear ho
        have HB := Lib.hid (show Below w.heap.size w w6 from HB.out.trans ((show Below _ _ _ from ((Below.refl _ _).alloc (by omega) _)).trans (hb.mono (by first | omega | (simp <;> omega)))))
        have Ha : Hid (w6.rangeAt (w1.heap.size) 0 [.int .i64 a.a.re, .int .i64 a.a.im, .int .i64 a.a.den, .int .i64 a.b.re, .int .i64 a.b.im, .int .i64 a.b.den, .int .i64 a.c.re, .int .i64 a.c.im, .int .i64 a.c.den, .int .i64 a.d.re, .int .i64 a.d.im, .int .i64 a.d.den]) := rangeAt_below (World.rangeAt_alloc Ha.out _) hb (by first | omega | (simp; done) | (simp <;> omega))
        have Hc : Hid (w6.rangeAt (w1.heap.size + 1) 0 [.int .i64 c.re, .int .i64 c.im, .int .i64 c.den]) := rangeAt_below (World.rangeAt_alloc Hc.out _) hb (by first | omega | (simp; done) | (simp <;> omega))
        have Ho : Hid (w6.rangeAt (w2.heap.size) 0 [.int .i64 m.a.re, .int .i64 m.a.im, .int .i64 m.a.den, .int .i64 m.b.re, .int .i64 m.b.im, .int .i64 m.b.den, .int .i64 m.c.re, .int .i64 m.c.im, .int .i64 m.c.den, .int .i64 m.d.re, .int .i64 m.d.im, .int .i64 m.d.den]) := rangeAt_below (World.rangeAt_alloc Ho.out _) hb (by first | omega | (simp; done) | (simp <;> omega))
        have Hq : Hid (w6.rangeAt (w3.heap.size) 0 [.int .i64 m.a.re, .int .i64 m.a.im, .int .i64 m.a.den, .int .i64 m.b.re, .int .i64 m.b.im, .int .i64 m.b.den, .int .i64 m.c.re, .int .i64 m.c.im, .int .i64 m.c.den, .int .i64 m.d.re, .int .i64 m.d.im, .int .i64 m.d.den]) := rangeAt_below (World.rangeAt_alloc Hq.out _) hb (by first | omega | (simp; done) | (simp <;> omega))
        have Hs1 : Hid (w6.rangeAt (w4.heap.size) 0 [.int .i64 s.re, .int .i64 s.im, .int .i64 s.den]) := rangeAt_below (World.rangeAt_alloc Hs1.out _) hb (by first | omega | (simp; done) | (simp <;> omega))
        have Ht1 : Hid (w6.rangeAt w5.heap.size 0 [.int .i64 t.re, .int .i64 t.im, .int .i64 t.den]) := rangeAt_below (rangeAt_new _ _ _) hb (by first | omega | (simp; done) | (simp <;> omega))
        have hz6 := hb.size
        (try simp at hz6)
        clear hb
        have nA0 : w1.heap.size < w6.heap.size := by omega
        have nB0 : ¬ w1.heap.size = w6.heap.size := by omega
        have nC0 : ¬ w6.heap.size = w1.heap.size := by omega
        have nA1 : w1.heap.size + 1 < w6.heap.size := by omega
        have nB1 : ¬ w1.heap.size + 1 = w6.heap.size := by omega
        have nC1 : ¬ w6.heap.size = w1.heap.size + 1 := by omega
        have nA2 : w2.heap.size < w6.heap.size := by omega
        have nB2 : ¬ w2.heap.size = w6.heap.size := by omega
        have nC2 : ¬ w6.heap.size = w2.heap.size := by omega
        have nA3 : w3.heap.size < w6.heap.size := by omega
        have nB3 : ¬ w3.heap.size = w6.heap.size := by omega
        have nC3 : ¬ w6.heap.size = w3.heap.size := by omega
        have nA4 : w4.heap.size < w6.heap.size := by omega
        have nB4 : ¬ w4.heap.size = w6.heap.size := by omega
        have nC4 : ¬ w6.heap.size = w4.heap.size := by omega
        have nA5 : w5.heap.size < w6.heap.size := by omega
        have nB5 : ¬ w5.heap.size = w6.heap.size := by omega
        have nC5 : ¬ w6.heap.size = w5.heap.size := by omega
        go_wp2_with fail
        go_ret
        exact ⟨rfl, (by (repeat' first | (with_reducible exact HB.out) | with_reducible refine setCells_below _ _ _ ?_ (by first | omega | (simp <;> omega)) | with_reducible refine Below.setCell ?_ (by show _ ≤ _; first | omega | (simp <;> omega) | simp) _ | with_reducible refine Below.alloc ?_ (by first | omega | (simp <;> omega)) _ | with_reducible apply Below.drew))⟩
      · skip
        go_wp2_with fail
        refine (ilight_any a _).mono ?_
        rintro e w6 ho
        rw [hl] at ho
        obtain ⟨rfl, hb⟩ : e = .returned (.bool true) ∧ Below _ _ _ := (id ho)
        clear ho
        have HB := Lib.hid (show Below w.heap.size w w6 from HB.out.trans ((show Below _ _ _ from ((Below.refl _ _).alloc (by omega) _)).trans (hb.mono (by first | omega | (simp <;> omega)))))
        have Ha : Hid (w6.rangeAt (w1.heap.size) 0 [.int .i64 a.a.re, .int .i64 a.a.im, .int .i64 a.a.den, .int .i64 a.b.re, .int .i64 a.b.im, .int .i64 a.b.den, .int .i64 a.c.re, .int .i64 a.c.im, .int .i64 a.c.den, .int .i64 a.d.re, .int .i64 a.d.im, .int .i64 a.d.den]) := rangeAt_below (World.rangeAt_alloc Ha.out _) hb (by first | omega | (simp; done) | (simp <;> omega))
        have Hc : Hid (w6.rangeAt (w1.heap.size + 1) 0 [.int .i64 c.re, .int .i64 c.im, .int .i64 c.den]) := rangeAt_below (World.rangeAt_alloc Hc.out _) hb (by first | omega | (simp; done) | (simp <;> omega))
        have Ho : Hid (w6.rangeAt (w2.heap.size) 0 [.int .i64 m.a.re, .int .i64 m.a.im, .int .i64 m.a.den, .int .i64 m.b.re, .int .i64 m.b.im, .int .i64 m.b.den, .int .i64 m.c.re, .int .i64 m.c.im, .int .i64 m.c.den, .int .i64 m.d.re, .int .i64 m.d.im, .int .i64 m.d.den]) := rangeAt_below (World.rangeAt_alloc Ho.out _) hb (by first | omega | (simp; done) | (simp <;> omega))
        have Hq : Hid (w6.rangeAt (w3.heap.size) 0 [.int .i64 m.a.re, .int .i64 m.a.im, .int .i64 m.a.den, .int .i64 m.b.re, .int .i64 m.b.im, .int .i64 m.b.den, .int .i64 m.c.re, .int .i64 m.c.im, .int .i64 m.c.den, .int .i64 m.d.re, .int .i64 m.d.im, .int .i64 m.d.den]) := rangeAt_below (World.rangeAt_alloc Hq.out _) hb (by first | omega | (simp; done) | (simp <;> omega))
        have Hs1 : Hid (w6.rangeAt (w4.heap.size) 0 [.int .i64 s.re, .int .i64 s.im, .int .i64 s.den]) := rangeAt_below (World.rangeAt_alloc Hs1.out _) hb (by first | omega | (simp; done) | (simp <;> omega))
        have Ht1 : Hid (w6.rangeAt w5.heap.size 0 [.int .i64 t.re, .int .i64 t.im, .int .i64 t.den]) := rangeAt_below (rangeAt_new _ _ _) hb (by first | omega | (simp; done) | (simp <;> omega))
        have hz6 := hb.size
        (try simp at hz6)
        clear hb
        have nA0 : w1.heap.size < w6.heap.size := by omega
        have nB0 : ¬ w1.heap.size = w6.heap.size := by omega
        have nC0 : ¬ w6.heap.size = w1.heap.size := by omega
        have nA1 : w1.heap.size + 1 < w6.heap.size := by omega
        have nB1 : ¬ w1.heap.size + 1 = w6.heap.size := by omega
        have nC1 : ¬ w6.heap.size = w1.heap.size + 1 := by omega
        have nA2 : w2.heap.size < w6.heap.size := by omega
        have nB2 : ¬ w2.heap.size = w6.heap.size := by omega
        have nC2 : ¬ w6.heap.size = w2.heap.size := by omega
        have nA3 : w3.heap.size < w6.heap.size := by omega
        have nB3 : ¬ w3.heap.size = w6.heap.size := by omega
        have nC3 : ¬ w6.heap.size = w3.heap.size := by omega
        have nA4 : w4.heap.size < w6.heap.size := by omega
        have nB4 : ¬ w4.heap.size = w6.heap.size := by omega
        have nC4 : ¬ w6.heap.size = w4.heap.size := by omega
        have nA5 : w5.heap.size < w6.heap.size := by omega
        have nB5 : ¬ w5.heap.size = w6.heap.size := by omega
        have nC5 : ¬ w6.heap.size = w5.heap.size := by omega
        have zo_0 : w6.cell? ⟨w2.heap.size, 0, none⟩ = some (.int .i64 m.a.re) := by have := Ho.out 0 _ rfl; rwa [Nat.zero_add] at this
        have zo_1 : w6.cell? ⟨w2.heap.size, 1, none⟩ = some (.int .i64 m.a.im) := by have := Ho.out 1 _ rfl; rwa [Nat.zero_add] at this
        have zo_2 : w6.cell? ⟨w2.heap.size, 2, none⟩ = some (.int .i64 m.a.den) := by have := Ho.out 2 _ rfl; rwa [Nat.zero_add] at this
        have zo_3 : w6.cell? ⟨w2.heap.size, 3, none⟩ = some (.int .i64 m.b.re) := by have := Ho.out 3 _ rfl; rwa [Nat.zero_add] at this
        have zo_4 : w6.cell? ⟨w2.heap.size, 4, none⟩ = some (.int .i64 m.b.im) := by have := Ho.out 4 _ rfl; rwa [Nat.zero_add] at this
        have zo_5 : w6.cell? ⟨w2.heap.size, 5, none⟩ = some (.int .i64 m.b.den) := by have := Ho.out 5 _ rfl; rwa [Nat.zero_add] at this
        have zo_6 : w6.cell? ⟨w2.heap.size, 6, none⟩ = some (.int .i64 m.c.re) := by have := Ho.out 6 _ rfl; rwa [Nat.zero_add] at this
        have zo_7 : w6.cell? ⟨w2.heap.size, 7, none⟩ = some (.int .i64 m.c.im) := by have := Ho.out 7 _ rfl; rwa [Nat.zero_add] at this
        have zo_8 : w6.cell? ⟨w2.heap.size, 8, none⟩ = some (.int .i64 m.c.den) := by have := Ho.out 8 _ rfl; rwa [Nat.zero_add] at this
        have zo_9 : w6.cell? ⟨w2.heap.size, 9, none⟩ = some (.int .i64 m.d.re) := by have := Ho.out 9 _ rfl; rwa [Nat.zero_add] at this
        have zo_10 : w6.cell? ⟨w2.heap.size, 10, none⟩ = some (.int .i64 m.d.im) := by have := Ho.out 10 _ rfl; rwa [Nat.zero_add] at this
        have zo_11 : w6.cell? ⟨w2.heap.size, 11, none⟩ = some (.int .i64 m.d.den) := by have := Ho.out 11 _ rfl; rwa [Nat.zero_add] at this
        cases b1
        · skip
          go_wp2_with fail
          go_ret
          exact ⟨rfl, (by (repeat' first | (with_reducible exact HB.out) | with_reducible refine setCells_below _ _ _ ?_ (by first | omega | (simp <;> omega)) | with_reducible refine Below.setCell ?_ (by show _ ≤ _; first | omega | (simp <;> omega) | simp) _ | with_reducible refine Below.alloc ?_ (by first | omega | (simp <;> omega)) _ | with_reducible apply Below.drew))⟩
        cases b2
        · skip
          go_wp2_with fail
          go_ret
          exact ⟨rfl, (by (repeat' first | (with_reducible exact HB.out) | with_reducible refine setCells_below _ _ _ ?_ (by first | omega | (simp <;> omega)) | with_reducible refine Below.setCell ?_ (by show _ ≤ _; first | omega | (simp <;> omega) | simp) _ | with_reducible refine Below.alloc ?_ (by first | omega | (simp <;> omega)) _ | with_reducible apply Below.drew))⟩
        have HL := Lib.hid (hlaw (by omega) hl HB1.out.symm HB2.out.symm)
        go_wp2_with fail
        refine (ilight_any m _).mono ?_
        rintro e w7 ho
        rw [HL.out] at ho
        obtain ⟨rfl, hb⟩ : e = .returned (.bool true) ∧ Below _ _ _ := (id ho)
        clear ho
        have HB := Lib.hid (show Below w.heap.size w w7 from HB.out.trans ((show Below _ _ _ from (Below.refl _ _)).trans (hb.mono (by first | omega | (simp <;> omega)))))
        have Ha : Hid (w7.rangeAt (w1.heap.size) 0 [.int .i64 a.a.re, .int .i64 a.a.im, .int .i64 a.a.den, .int .i64 a.b.re, .int .i64 a.b.im, .int .i64 a.b.den, .int .i64 a.c.re, .int .i64 a.c.im, .int .i64 a.c.den, .int .i64 a.d.re, .int .i64 a.d.im, .int .i64 a.d.den]) := rangeAt_below Ha.out hb (by omega)
        have Hc : Hid (w7.rangeAt (w1.heap.size + 1) 0 [.int .i64 c.re, .int .i64 c.im, .int .i64 c.den]) := rangeAt_below Hc.out hb (by omega)
        have Ho : Hid (w7.rangeAt (w2.heap.size) 0 [.int .i64 m.a.re, .int .i64 m.a.im, .int .i64 m.a.den, .int .i64 m.b.re, .int .i64 m.b.im, .int .i64 m.b.den, .int .i64 m.c.re, .int .i64 m.c.im, .int .i64 m.c.den, .int .i64 m.d.re, .int .i64 m.d.im, .int .i64 m.d.den]) := rangeAt_below Ho.out hb (by omega)
        have Hq : Hid (w7.rangeAt (w3.heap.size) 0 [.int .i64 m.a.re, .int .i64 m.a.im, .int .i64 m.a.den, .int .i64 m.b.re, .int .i64 m.b.im, .int .i64 m.b.den, .int .i64 m.c.re, .int .i64 m.c.im, .int .i64 m.c.den, .int .i64 m.d.re, .int .i64 m.d.im, .int .i64 m.d.den]) := rangeAt_below Hq.out hb (by omega)
        have Hs1 : Hid (w7.rangeAt (w4.heap.size) 0 [.int .i64 s.re, .int .i64 s.im, .int .i64 s.den]) := rangeAt_below Hs1.out hb (by omega)
        have Ht1 : Hid (w7.rangeAt (w5.heap.size) 0 [.int .i64 t.re, .int .i64 t.im, .int .i64 t.den]) := rangeAt_below Ht1.out hb (by omega)
        have hz7 := hb.size
        (try simp at hz7)
        clear hb
        have nA0 : w1.heap.size < w7.heap.size := by omega
        have nB0 : ¬ w1.heap.size = w7.heap.size := by omega
        have nC0 : ¬ w7.heap.size = w1.heap.size := by omega
        have nA1 : w1.heap.size + 1 < w7.heap.size := by omega
        have nB1 : ¬ w1.heap.size + 1 = w7.heap.size := by omega
        have nC1 : ¬ w7.heap.size = w1.heap.size + 1 := by omega
        have nA2 : w2.heap.size < w7.heap.size := by omega
        have nB2 : ¬ w2.heap.size = w7.heap.size := by omega
        have nC2 : ¬ w7.heap.size = w2.heap.size := by omega
        have nA3 : w3.heap.size < w7.heap.size := by omega
        have nB3 : ¬ w3.heap.size = w7.heap.size := by omega
        have nC3 : ¬ w7.heap.size = w3.heap.size := by omega
        have nA4 : w4.heap.size < w7.heap.size := by omega
        have nB4 : ¬ w4.heap.size = w7.heap.size := by omega
        have nC4 : ¬ w7.heap.size = w4.heap.size := by omega
        have nA5 : w5.heap.size < w7.heap.size := by omega
        have nB5 : ¬ w5.heap.size = w7.heap.size := by omega
        have nC5 : ¬ w7.heap.size = w5.heap.size := by omega
        go_wp2_with fail
        go_ret
        exact ⟨rfl, (by (repeat' first | (with_reducible exact HB.out) | with_reducible refine setCells_below _ _ _ ?_ (by first | omega | (simp <;> omega)) | with_reducible refine Below.setCell ?_ (by show _ ≤ _; first | omega | (simp <;> omega) | simp) _ | with_reducible refine Below.alloc ?_ (by first | omega | (simp <;> omega)) _ | with_reducible apply Below.drew))⟩

set_option maxRecDepth 100000 in
theorem lifted_FnStokesTimes (os : Os) (started : os.Started) (H : Type) (enc : TypeId × Value → H) :
    ReturnsInHanded {} Try.checked os 8 .any (Rows.fnStokesTimesSpec.pre6 enc Try.prog Try.f8 Rows.fnStokesTimesRow.domain false) (Rows.fnStokesTimesSpec.post enc Try.prog Try.f8 false true false false) := by
  refine returnsInHanded_of_change (C := Try.checked) Try.own started (by kernel_rfl) Try.func8
    (ChangeSpec.witness6 (enc := enc) (C := Try.checked) false ⟨#[], #[.slice none 0 0], []⟩ 8 (by kernel_rfl) (by kernel_rfl) (by kernel_rfl) (by kernel_rfl)) ?_
  intro W base args ds gs before hval0 hW hcnd _
  have hval : ∀ (j : Nat) t v, Try.f8.params[j]? = some t → args[j]? = some v → Value.okWide Try.prog W .any base t v := hval0
  have hW' := hW
  obtain ⟨p, q, hA0, hV, rfl, hfz, hnd⟩ := hW
  have hA : DataW.TrodAll enc Try.prog W 0 (fun _ => true) true Try.f8.params.toList args.toList ds p := hA0
  rw [Try.params8] at hA hval
  obtain ⟨v0, d0, rfl, rfl, h0⟩ := trodAll_one hA
  obtain ⟨rfl, rfl⟩ := trodVars_none hV
  have h0k := h0
  obtain ⟨fuel, hf⟩ := h0
  clear hA0 hval0
  simp only [List.append_nil] at hW'
  have hlt : ∀ x ∈ p, x.block < W.heap.size := fun x hx => by simpa using hW'.lt x hx
  obtain ⟨a0, len, cap, rfl⟩ := okWide_slice Try.underlying22 (hval 0 22 v0 rfl rfl)
  obtain ⟨hcap, HC⟩ := open_code hf hlt
  refine (walk_FnStokesTimes a0 len cap W hcap HC).mono fun e W' ⟨he, hb⟩ => ?_
  subst he
  refine ⟨_, rfl, _, _, _, [], p, [], hW', trodAll_mk1 (shut_bool Try.underlying4 _), trodAll_mk1 (Below.trod Try.laidOut (by kernel_rfl) (of_decide_eq_true (by kernel_rfl)) h0k hb (fun x hx => hlt x (by simp [hx]))), rfl, hb.frame _, fun h => by cases h⟩

/-- THE STATEMENT. -/
theorem holds_FnStokesTimes : Rows.FnStokesTimesSaid :=
  OpenClaim.holds_of_wide 8 Try.f8 rfl rfl rfl rfl rfl rfl rfl ⟨rfl, rfl, rfl, rfl, rfl⟩ rfl rfl rfl rfl rfl (by kernel_rfl) Try.func8 (by kernel_rfl)
    (of_decide_eq_true (by kernel_rfl)) (by unfold Func.isWrapper; first | (rw [if_pos (by decide +kernel)]; kernel_rfl) | (rw [if_neg (by decide +kernel)]; exact ⟨rfl, rfl⟩))
    (fun os started H enc _ => lifted_FnStokesTimes os started H enc)
end Go.Proofs.Ytdmddojidfggkaa
