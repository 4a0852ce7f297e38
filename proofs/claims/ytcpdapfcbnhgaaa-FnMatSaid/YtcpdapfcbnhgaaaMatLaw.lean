/- Once is not changed. -/
import Derived.Test.YtcpdapfcbnhgaaaDW3
import Derived.Test.YtcpdapfcbnhgaaaQT
import Derived.Test.YtcpdapfcbnhgaaaQT2
import Derived.Test.YtcpdapfcbnhgaaaNC
import Derived.Test.YtcpdapfcbnhgaaaZ
import Derived.Test.YtcpdapfcbnhgaaaK
import Derived.Test.YtcpdapfcbnhgaaaEQ2
namespace Go.Proofs.Ytcpdapfcbnhgaaa
open Go.ChangeShapes Go.WideShapes Go.ChangeAt Go.RowKit Pol

set_option maxRecDepth 100000 in
set_option maxHeartbeats 40000000 in
theorem walk_FnMat (a0 : Option Addr) (len cap : Nat) (w : World) (hcap : len ≤ cap) (HC : Code w.heap.size w a0 len) :
    Calls Try.prog 5 #[.slice a0 len cap] w fun e w' => e = .returned (.bool true) ∧ Below w.heap.size w w' := by
  by_cases hbig : 1048576 < len
  · have h1 : (1048576 : Int) < (len : Int) := by omega
    go_enter Try.func5, Try.ntmps5
    go_wp2
    go_ret
    exact ⟨rfl, Below.refl _ _⟩
  have h1 : ¬ (1048576 : Int) < (len : Int) := by omega
  go_enter Try.func5, Try.ntmps5
  go_wp2_with fail
  refine (DrawMatValid_any a0 len cap _ hcap HC).mono ?_
  rintro e w1 ⟨a, rfl, hb⟩
  rw [cl4 a]
  have HB := Lib.hid (show Below w.heap.size w w1 from hb)
  have hz1 := hb.size
  (try simp at hz1)
  clear hb
  cases hv : all4 vld a
  · skip
    go_wp2_with (first | ((with_reducible refine wpList_load_mid ?kl91 29 ?kl9x ?kl92 (w1.heap.size) 0 ?kl93 [.int .i64 a.a.re, .int .i64 a.a.im, .int .i64 a.a.den, .int .i64 a.b.re, .int .i64 a.b.im, .int .i64 a.b.den, .int .i64 a.c.re, .int .i64 a.c.im, .int .i64 a.c.den, .int .i64 a.d.re, .int .i64 a.d.im, .int .i64 a.d.den] ?kl9d ?kl94 ?kl95 ?kl96 ?kl97 ?kl98); (case kl92 => rfl); (case kl91 => rfl); (case kl93 => rfl); (case kl94 => (exact (rangeAt_new _ _ _))); (case kl95 => exact Try.underlying29); (case kl96 => rfl); (case kl97 => kernel_rfl)))
    refine (imatvalid_any a _).mono ?_
    rintro e w2 ho
    rw [hv] at ho
    obtain ⟨rfl, hb⟩ : e = .returned (.bool false) ∧ Below _ _ _ := (id ho)
    clear ho
    have HB := Lib.hid (show Below w.heap.size w w2 from HB.out.trans ((show Below _ _ _ from ((Below.refl _ _).alloc (by omega) _)).trans (hb.mono (by first | omega | (simp <;> omega)))))
    have Ha : Hid (w2.rangeAt w1.heap.size 0 [.int .i64 a.a.re, .int .i64 a.a.im, .int .i64 a.a.den, .int .i64 a.b.re, .int .i64 a.b.im, .int .i64 a.b.den, .int .i64 a.c.re, .int .i64 a.c.im, .int .i64 a.c.den, .int .i64 a.d.re, .int .i64 a.d.im, .int .i64 a.d.den]) := rangeAt_below (rangeAt_new _ _ _) hb (by first | omega | (simp; done) | (simp <;> omega))
    have hz2 := hb.size
    (try simp at hz2)
    clear hb
    have nA0 : w1.heap.size < w2.heap.size := by omega
    have nB0 : ¬ w1.heap.size = w2.heap.size := by omega
    have nC0 : ¬ w2.heap.size = w1.heap.size := by omega
    go_wp2_with (first | ((with_reducible refine wpList_load_mid ?kl101 29 ?kl10x ?kl102 (w1.heap.size) 0 ?kl103 [.int .i64 a.a.re, .int .i64 a.a.im, .int .i64 a.a.den, .int .i64 a.b.re, .int .i64 a.b.im, .int .i64 a.b.den, .int .i64 a.c.re, .int .i64 a.c.im, .int .i64 a.c.den, .int .i64 a.d.re, .int .i64 a.d.im, .int .i64 a.d.den] ?kl10d ?kl104 ?kl105 ?kl106 ?kl107 ?kl108); (case kl102 => rfl); (case kl101 => rfl); (case kl103 => rfl); (case kl104 => (exact Ha.out)); (case kl105 => exact Try.underlying29); (case kl106 => rfl); (case kl107 => kernel_rfl)))
    refine (smatvalid_any a _).mono ?_
    rintro e w3 ho
    rw [hv] at ho
    obtain ⟨rfl, hb⟩ : e = .returned (.bool false) ∧ Below _ _ _ := (id ho)
    clear ho
    have HB := Lib.hid (show Below w.heap.size w w3 from HB.out.trans ((show Below _ _ _ from (Below.refl _ _)).trans (hb.mono (by first | omega | (simp <;> omega)))))
    have Ha : Hid (w3.rangeAt (w1.heap.size) 0 [.int .i64 a.a.re, .int .i64 a.a.im, .int .i64 a.a.den, .int .i64 a.b.re, .int .i64 a.b.im, .int .i64 a.b.den, .int .i64 a.c.re, .int .i64 a.c.im, .int .i64 a.c.den, .int .i64 a.d.re, .int .i64 a.d.im, .int .i64 a.d.den]) := rangeAt_below Ha.out hb (by omega)
    have hz3 := hb.size
    (try simp at hz3)
    clear hb
    have nA0 : w1.heap.size < w3.heap.size := by omega
    have nB0 : ¬ w1.heap.size = w3.heap.size := by omega
    have nC0 : ¬ w3.heap.size = w1.heap.size := by omega
    go_wp2_with fail
    go_ret
    exact ⟨rfl, (by (repeat' first | (with_reducible exact HB.out) | with_reducible refine setCells_below _ _ _ ?_ (by first | omega | (simp <;> omega)) | with_reducible refine Below.setCell ?_ (by show _ ≤ _; first | omega | (simp <;> omega) | simp) _ | with_reducible refine Below.alloc ?_ (by first | omega | (simp <;> omega)) _ | with_reducible apply Below.drew))⟩
  · skip
    have HS : Hid (mSca a ⟨1, 0, 1⟩ = (a, true)) := sca_one hv
    have HL : Hid (mTm mOne a = (a, true)) := one_mul hv
    have HR : Hid (mTm a mOne = (a, true)) := mul_one hv
    have HO : Hid (gRot 1 0 = (mOne, true)) := rot_one
    have HV := Lib.hid hv
    clear hv
    obtain ⟨I, hI⟩ : ∃ I, I = mOne := ⟨_, rfl⟩
    rw [← hI] at HL HR HO
    clear hI
    go_wp2_with (first | ((with_reducible refine wpList_load_mid ?kl111 29 ?kl11x ?kl112 (w1.heap.size) 0 ?kl113 [.int .i64 a.a.re, .int .i64 a.a.im, .int .i64 a.a.den, .int .i64 a.b.re, .int .i64 a.b.im, .int .i64 a.b.den, .int .i64 a.c.re, .int .i64 a.c.im, .int .i64 a.c.den, .int .i64 a.d.re, .int .i64 a.d.im, .int .i64 a.d.den] ?kl11d ?kl114 ?kl115 ?kl116 ?kl117 ?kl118); (case kl112 => rfl); (case kl111 => rfl); (case kl113 => rfl); (case kl114 => (exact (rangeAt_new _ _ _))); (case kl115 => exact Try.underlying29); (case kl116 => rfl); (case kl117 => kernel_rfl)))
    refine (imatvalid_any a _).mono ?_
    rintro e w2 ho
    rw [HV.out] at ho
    obtain ⟨rfl, hb⟩ : e = .returned (.bool true) ∧ Below _ _ _ := (id ho)
    clear ho
    have HB := Lib.hid (show Below w.heap.size w w2 from HB.out.trans ((show Below _ _ _ from ((Below.refl _ _).alloc (by omega) _)).trans (hb.mono (by first | omega | (simp <;> omega)))))
    have Ha : Hid (w2.rangeAt w1.heap.size 0 [.int .i64 a.a.re, .int .i64 a.a.im, .int .i64 a.a.den, .int .i64 a.b.re, .int .i64 a.b.im, .int .i64 a.b.den, .int .i64 a.c.re, .int .i64 a.c.im, .int .i64 a.c.den, .int .i64 a.d.re, .int .i64 a.d.im, .int .i64 a.d.den]) := rangeAt_below (rangeAt_new _ _ _) hb (by first | omega | (simp; done) | (simp <;> omega))
    have hz2 := hb.size
    (try simp at hz2)
    clear hb
    have nA0 : w1.heap.size < w2.heap.size := by omega
    have nB0 : ¬ w1.heap.size = w2.heap.size := by omega
    have nC0 : ¬ w2.heap.size = w1.heap.size := by omega
    go_wp2_with (first | ((with_reducible refine wpList_load_mid ?kl121 29 ?kl12x ?kl122 (w1.heap.size) 0 ?kl123 [.int .i64 a.a.re, .int .i64 a.a.im, .int .i64 a.a.den, .int .i64 a.b.re, .int .i64 a.b.im, .int .i64 a.b.den, .int .i64 a.c.re, .int .i64 a.c.im, .int .i64 a.c.den, .int .i64 a.d.re, .int .i64 a.d.im, .int .i64 a.d.den] ?kl12d ?kl124 ?kl125 ?kl126 ?kl127 ?kl128); (case kl122 => rfl); (case kl121 => rfl); (case kl123 => rfl); (case kl124 => (exact Ha.out)); (case kl125 => exact Try.underlying29); (case kl126 => rfl); (case kl127 => kernel_rfl)))
    refine (smatvalid_any a _).mono ?_
    rintro e w3 ho
    rw [HV.out] at ho
    obtain ⟨rfl, hb⟩ : e = .returned (.bool true) ∧ Below _ _ _ := (id ho)
    clear ho
    have HB := Lib.hid (show Below w.heap.size w w3 from HB.out.trans ((show Below _ _ _ from (Below.refl _ _)).trans (hb.mono (by first | omega | (simp <;> omega)))))
    have Ha : Hid (w3.rangeAt (w1.heap.size) 0 [.int .i64 a.a.re, .int .i64 a.a.im, .int .i64 a.a.den, .int .i64 a.b.re, .int .i64 a.b.im, .int .i64 a.b.den, .int .i64 a.c.re, .int .i64 a.c.im, .int .i64 a.c.den, .int .i64 a.d.re, .int .i64 a.d.im, .int .i64 a.d.den]) := rangeAt_below Ha.out hb (by omega)
    have hz3 := hb.size
    (try simp at hz3)
    clear hb
    have nA0 : w1.heap.size < w3.heap.size := by omega
    have nB0 : ¬ w1.heap.size = w3.heap.size := by omega
    have nC0 : ¬ w3.heap.size = w1.heap.size := by omega
    go_wp2_with fail
    refine (irot_any 1 0 _).mono ?_
    rintro e w4 ho
    rw [HO.out] at ho
    obtain ⟨rfl, hb⟩ : e = .returned (.tuple #[.agg #[.int .i64 I.a.re, .int .i64 I.a.im, .int .i64 I.a.den, .int .i64 I.b.re, .int .i64 I.b.im, .int .i64 I.b.den, .int .i64 I.c.re, .int .i64 I.c.im, .int .i64 I.c.den, .int .i64 I.d.re, .int .i64 I.d.im, .int .i64 I.d.den], .bool true]) ∧ Below _ _ _ := ho.fn
    clear ho
    have HB := Lib.hid (show Below w.heap.size w w4 from HB.out.trans ((show Below _ _ _ from (Below.refl _ _)).trans (hb.mono (by first | omega | (simp <;> omega)))))
    have Ha : Hid (w4.rangeAt (w1.heap.size) 0 [.int .i64 a.a.re, .int .i64 a.a.im, .int .i64 a.a.den, .int .i64 a.b.re, .int .i64 a.b.im, .int .i64 a.b.den, .int .i64 a.c.re, .int .i64 a.c.im, .int .i64 a.c.den, .int .i64 a.d.re, .int .i64 a.d.im, .int .i64 a.d.den]) := rangeAt_below Ha.out hb (by omega)
    have hz4 := hb.size
    (try simp at hz4)
    clear hb
    have nA0 : w1.heap.size < w4.heap.size := by omega
    have nB0 : ¬ w1.heap.size = w4.heap.size := by omega
    have nC0 : ¬ w4.heap.size = w1.heap.size := by omega
    go_wp2_with (first | ((with_reducible refine wpList_load_mid ?kl131 29 ?kl13x ?kl132 (w1.heap.size) 0 ?kl133 [.int .i64 a.a.re, .int .i64 a.a.im, .int .i64 a.a.den, .int .i64 a.b.re, .int .i64 a.b.im, .int .i64 a.b.den, .int .i64 a.c.re, .int .i64 a.c.im, .int .i64 a.c.den, .int .i64 a.d.re, .int .i64 a.d.im, .int .i64 a.d.den] ?kl13d ?kl134 ?kl135 ?kl136 ?kl137 ?kl138); (case kl132 => rfl); (case kl131 => rfl); (case kl133 => rfl); (case kl134 => (exact (World.rangeAt_alloc Ha.out _))); (case kl135 => exact Try.underlying29); (case kl136 => rfl); (case kl137 => kernel_rfl)))
    refine (isca_any a ⟨1, 0, 1⟩ _).mono ?_
    rintro e w5 ho
    rw [HS.out] at ho
    obtain ⟨rfl, hb⟩ : e = .returned (.tuple #[.agg #[.int .i64 a.a.re, .int .i64 a.a.im, .int .i64 a.a.den, .int .i64 a.b.re, .int .i64 a.b.im, .int .i64 a.b.den, .int .i64 a.c.re, .int .i64 a.c.im, .int .i64 a.c.den, .int .i64 a.d.re, .int .i64 a.d.im, .int .i64 a.d.den], .bool true]) ∧ Below _ _ _ := ho.fn
    clear ho
    have HB := Lib.hid (show Below w.heap.size w w5 from HB.out.trans ((show Below _ _ _ from ((Below.refl _ _).alloc (by omega) _)).trans (hb.mono (by first | omega | (simp <;> omega)))))
    have Ha : Hid (w5.rangeAt (w1.heap.size) 0 [.int .i64 a.a.re, .int .i64 a.a.im, .int .i64 a.a.den, .int .i64 a.b.re, .int .i64 a.b.im, .int .i64 a.b.den, .int .i64 a.c.re, .int .i64 a.c.im, .int .i64 a.c.den, .int .i64 a.d.re, .int .i64 a.d.im, .int .i64 a.d.den]) := rangeAt_below (World.rangeAt_alloc Ha.out _) hb (by first | omega | (simp; done) | (simp <;> omega))
    have Hone : Hid (w5.rangeAt w4.heap.size 0 [.int .i64 I.a.re, .int .i64 I.a.im, .int .i64 I.a.den, .int .i64 I.b.re, .int .i64 I.b.im, .int .i64 I.b.den, .int .i64 I.c.re, .int .i64 I.c.im, .int .i64 I.c.den, .int .i64 I.d.re, .int .i64 I.d.im, .int .i64 I.d.den]) := rangeAt_below (rangeAt_new _ _ _) hb (by first | omega | (simp; done) | (simp <;> omega))
    have hz5 := hb.size
    (try simp at hz5)
    clear hb
    have nA0 : w1.heap.size < w5.heap.size := by omega
    have nB0 : ¬ w1.heap.size = w5.heap.size := by omega
    have nC0 : ¬ w5.heap.size = w1.heap.size := by omega
    have nA1 : w4.heap.size < w5.heap.size := by omega
    have nB1 : ¬ w4.heap.size = w5.heap.size := by omega
    have nC1 : ¬ w5.heap.size = w4.heap.size := by omega
    go_wp2_with (first | ((with_reducible refine wpList_load_mid ?kl141 29 ?kl14x ?kl142 (w4.heap.size) 0 ?kl143 [.int .i64 I.a.re, .int .i64 I.a.im, .int .i64 I.a.den, .int .i64 I.b.re, .int .i64 I.b.im, .int .i64 I.b.den, .int .i64 I.c.re, .int .i64 I.c.im, .int .i64 I.c.den, .int .i64 I.d.re, .int .i64 I.d.im, .int .i64 I.d.den] ?kl14d ?kl144 ?kl145 ?kl146 ?kl147 ?kl148); (case kl142 => rfl); (case kl141 => rfl); (case kl143 => rfl); (case kl144 => (exact (World.rangeAt_alloc Hone.out _))); (case kl145 => exact Try.underlying29); (case kl146 => rfl); (case kl147 => kernel_rfl)) | ((with_reducible refine wpList_load_mid ?kl151 29 ?kl15x ?kl152 (w1.heap.size) 0 ?kl153 [.int .i64 a.a.re, .int .i64 a.a.im, .int .i64 a.a.den, .int .i64 a.b.re, .int .i64 a.b.im, .int .i64 a.b.den, .int .i64 a.c.re, .int .i64 a.c.im, .int .i64 a.c.den, .int .i64 a.d.re, .int .i64 a.d.im, .int .i64 a.d.den] ?kl15d ?kl154 ?kl155 ?kl156 ?kl157 ?kl158); (case kl152 => rfl); (case kl151 => rfl); (case kl153 => rfl); (case kl154 => (exact (World.rangeAt_alloc Ha.out _))); (case kl155 => exact Try.underlying29); (case kl156 => rfl); (case kl157 => kernel_rfl)))
    refine (imtm_m I a _).mono ?_
    rintro e w6 ho
    rw [HL.out] at ho
    obtain ⟨rfl, hb⟩ : e = .returned (.tuple #[.agg #[.int .i64 a.a.re, .int .i64 a.a.im, .int .i64 a.a.den, .int .i64 a.b.re, .int .i64 a.b.im, .int .i64 a.b.den, .int .i64 a.c.re, .int .i64 a.c.im, .int .i64 a.c.den, .int .i64 a.d.re, .int .i64 a.d.im, .int .i64 a.d.den], .bool true]) ∧ Below _ _ _ := ho.fn
    clear ho
    have HB := Lib.hid (show Below w.heap.size w w6 from HB.out.trans ((show Below _ _ _ from ((Below.refl _ _).alloc (by omega) _)).trans (hb.mono (by first | omega | (simp <;> omega)))))
    have Ha : Hid (w6.rangeAt (w1.heap.size) 0 [.int .i64 a.a.re, .int .i64 a.a.im, .int .i64 a.a.den, .int .i64 a.b.re, .int .i64 a.b.im, .int .i64 a.b.den, .int .i64 a.c.re, .int .i64 a.c.im, .int .i64 a.c.den, .int .i64 a.d.re, .int .i64 a.d.im, .int .i64 a.d.den]) := rangeAt_below (World.rangeAt_alloc Ha.out _) hb (by first | omega | (simp; done) | (simp <;> omega))
    have Hone : Hid (w6.rangeAt (w4.heap.size) 0 [.int .i64 I.a.re, .int .i64 I.a.im, .int .i64 I.a.den, .int .i64 I.b.re, .int .i64 I.b.im, .int .i64 I.b.den, .int .i64 I.c.re, .int .i64 I.c.im, .int .i64 I.c.den, .int .i64 I.d.re, .int .i64 I.d.im, .int .i64 I.d.den]) := rangeAt_below (World.rangeAt_alloc Hone.out _) hb (by first | omega | (simp; done) | (simp <;> omega))
    have Hx : Hid (w6.rangeAt w5.heap.size 0 [.int .i64 a.a.re, .int .i64 a.a.im, .int .i64 a.a.den, .int .i64 a.b.re, .int .i64 a.b.im, .int .i64 a.b.den, .int .i64 a.c.re, .int .i64 a.c.im, .int .i64 a.c.den, .int .i64 a.d.re, .int .i64 a.d.im, .int .i64 a.d.den]) := rangeAt_below (rangeAt_new _ _ _) hb (by first | omega | (simp; done) | (simp <;> omega))
    have hz6 := hb.size
    (try simp at hz6)
    clear hb
    have nA0 : w1.heap.size < w6.heap.size := by omega
    have nB0 : ¬ w1.heap.size = w6.heap.size := by omega
    have nC0 : ¬ w6.heap.size = w1.heap.size := by omega
    have nA1 : w4.heap.size < w6.heap.size := by omega
    have nB1 : ¬ w4.heap.size = w6.heap.size := by omega
    have nC1 : ¬ w6.heap.size = w4.heap.size := by omega
    have nA2 : w5.heap.size < w6.heap.size := by omega
    have nB2 : ¬ w5.heap.size = w6.heap.size := by omega
    have nC2 : ¬ w6.heap.size = w5.heap.size := by omega
    go_wp2_with (first | ((with_reducible refine wpList_load_mid ?kl161 29 ?kl16x ?kl162 (w1.heap.size) 0 ?kl163 [.int .i64 a.a.re, .int .i64 a.a.im, .int .i64 a.a.den, .int .i64 a.b.re, .int .i64 a.b.im, .int .i64 a.b.den, .int .i64 a.c.re, .int .i64 a.c.im, .int .i64 a.c.den, .int .i64 a.d.re, .int .i64 a.d.im, .int .i64 a.d.den] ?kl16d ?kl164 ?kl165 ?kl166 ?kl167 ?kl168); (case kl162 => rfl); (case kl161 => rfl); (case kl163 => rfl); (case kl164 => (exact (World.rangeAt_alloc Ha.out _))); (case kl165 => exact Try.underlying29); (case kl166 => rfl); (case kl167 => kernel_rfl)) | ((with_reducible refine wpList_load_mid ?kl171 29 ?kl17x ?kl172 (w4.heap.size) 0 ?kl173 [.int .i64 I.a.re, .int .i64 I.a.im, .int .i64 I.a.den, .int .i64 I.b.re, .int .i64 I.b.im, .int .i64 I.b.den, .int .i64 I.c.re, .int .i64 I.c.im, .int .i64 I.c.den, .int .i64 I.d.re, .int .i64 I.d.im, .int .i64 I.d.den] ?kl17d ?kl174 ?kl175 ?kl176 ?kl177 ?kl178); (case kl172 => rfl); (case kl171 => rfl); (case kl173 => rfl); (case kl174 => (exact (World.rangeAt_alloc Hone.out _))); (case kl175 => exact Try.underlying29); (case kl176 => rfl); (case kl177 => kernel_rfl)))
    refine (imtm_m a I _).mono ?_
    rintro e w7 ho
    rw [HR.out] at ho
    obtain ⟨rfl, hb⟩ : e = .returned (.tuple #[.agg #[.int .i64 a.a.re, .int .i64 a.a.im, .int .i64 a.a.den, .int .i64 a.b.re, .int .i64 a.b.im, .int .i64 a.b.den, .int .i64 a.c.re, .int .i64 a.c.im, .int .i64 a.c.den, .int .i64 a.d.re, .int .i64 a.d.im, .int .i64 a.d.den], .bool true]) ∧ Below _ _ _ := ho.fn
    clear ho
    have HB := Lib.hid (show Below w.heap.size w w7 from HB.out.trans ((show Below _ _ _ from ((Below.refl _ _).alloc (by omega) _)).trans (hb.mono (by first | omega | (simp <;> omega)))))
    have Ha : Hid (w7.rangeAt (w1.heap.size) 0 [.int .i64 a.a.re, .int .i64 a.a.im, .int .i64 a.a.den, .int .i64 a.b.re, .int .i64 a.b.im, .int .i64 a.b.den, .int .i64 a.c.re, .int .i64 a.c.im, .int .i64 a.c.den, .int .i64 a.d.re, .int .i64 a.d.im, .int .i64 a.d.den]) := rangeAt_below (World.rangeAt_alloc Ha.out _) hb (by first | omega | (simp; done) | (simp <;> omega))
    have Hone : Hid (w7.rangeAt (w4.heap.size) 0 [.int .i64 I.a.re, .int .i64 I.a.im, .int .i64 I.a.den, .int .i64 I.b.re, .int .i64 I.b.im, .int .i64 I.b.den, .int .i64 I.c.re, .int .i64 I.c.im, .int .i64 I.c.den, .int .i64 I.d.re, .int .i64 I.d.im, .int .i64 I.d.den]) := rangeAt_below (World.rangeAt_alloc Hone.out _) hb (by first | omega | (simp; done) | (simp <;> omega))
    have Hx : Hid (w7.rangeAt (w5.heap.size) 0 [.int .i64 a.a.re, .int .i64 a.a.im, .int .i64 a.a.den, .int .i64 a.b.re, .int .i64 a.b.im, .int .i64 a.b.den, .int .i64 a.c.re, .int .i64 a.c.im, .int .i64 a.c.den, .int .i64 a.d.re, .int .i64 a.d.im, .int .i64 a.d.den]) := rangeAt_below (World.rangeAt_alloc Hx.out _) hb (by first | omega | (simp; done) | (simp <;> omega))
    have Hy : Hid (w7.rangeAt w6.heap.size 0 [.int .i64 a.a.re, .int .i64 a.a.im, .int .i64 a.a.den, .int .i64 a.b.re, .int .i64 a.b.im, .int .i64 a.b.den, .int .i64 a.c.re, .int .i64 a.c.im, .int .i64 a.c.den, .int .i64 a.d.re, .int .i64 a.d.im, .int .i64 a.d.den]) := rangeAt_below (rangeAt_new _ _ _) hb (by first | omega | (simp; done) | (simp <;> omega))
    have hz7 := hb.size
    (try simp at hz7)
    clear hb
    have nA0 : w1.heap.size < w7.heap.size := by omega
    have nB0 : ¬ w1.heap.size = w7.heap.size := by omega
    have nC0 : ¬ w7.heap.size = w1.heap.size := by omega
    have nA1 : w4.heap.size < w7.heap.size := by omega
    have nB1 : ¬ w4.heap.size = w7.heap.size := by omega
    have nC1 : ¬ w7.heap.size = w4.heap.size := by omega
    have nA2 : w5.heap.size < w7.heap.size := by omega
    have nB2 : ¬ w5.heap.size = w7.heap.size := by omega
    have nC2 : ¬ w7.heap.size = w5.heap.size := by omega
    have nA3 : w6.heap.size < w7.heap.size := by omega
    have nB3 : ¬ w6.heap.size = w7.heap.size := by omega
    have nC3 : ¬ w7.heap.size = w6.heap.size := by omega
    have hEq1 : ∀ w, (Op.equalIn 10000 29 (.agg #[.int .i64 a.a.re, .int .i64 a.a.im, .int .i64 a.a.den, .int .i64 a.b.re, .int .i64 a.b.im, .int .i64 a.b.den, .int .i64 a.c.re, .int .i64 a.c.im, .int .i64 a.c.den, .int .i64 a.d.re, .int .i64 a.d.im, .int .i64 a.d.den]) (.agg #[.int .i64 a.a.re, .int .i64 a.a.im, .int .i64 a.a.den, .int .i64 a.b.re, .int .i64 a.b.im, .int .i64 a.b.den, .int .i64 a.c.re, .int .i64 a.c.im, .int .i64 a.c.den, .int .i64 a.d.re, .int .i64 a.d.im, .int .i64 a.d.den])).run Try.prog w = .ok true w := eqMat_run a
    have za_0 : w7.cell? ⟨w1.heap.size, 0, none⟩ = some (.int .i64 a.a.re) := by have := Ha.out 0 _ rfl; rwa [Nat.zero_add] at this
    have za_1 : w7.cell? ⟨w1.heap.size, 1, none⟩ = some (.int .i64 a.a.im) := by have := Ha.out 1 _ rfl; rwa [Nat.zero_add] at this
    have za_2 : w7.cell? ⟨w1.heap.size, 2, none⟩ = some (.int .i64 a.a.den) := by have := Ha.out 2 _ rfl; rwa [Nat.zero_add] at this
    have za_3 : w7.cell? ⟨w1.heap.size, 3, none⟩ = some (.int .i64 a.b.re) := by have := Ha.out 3 _ rfl; rwa [Nat.zero_add] at this
    have za_4 : w7.cell? ⟨w1.heap.size, 4, none⟩ = some (.int .i64 a.b.im) := by have := Ha.out 4 _ rfl; rwa [Nat.zero_add] at this
    have za_5 : w7.cell? ⟨w1.heap.size, 5, none⟩ = some (.int .i64 a.b.den) := by have := Ha.out 5 _ rfl; rwa [Nat.zero_add] at this
    have za_6 : w7.cell? ⟨w1.heap.size, 6, none⟩ = some (.int .i64 a.c.re) := by have := Ha.out 6 _ rfl; rwa [Nat.zero_add] at this
    have za_7 : w7.cell? ⟨w1.heap.size, 7, none⟩ = some (.int .i64 a.c.im) := by have := Ha.out 7 _ rfl; rwa [Nat.zero_add] at this
    have za_8 : w7.cell? ⟨w1.heap.size, 8, none⟩ = some (.int .i64 a.c.den) := by have := Ha.out 8 _ rfl; rwa [Nat.zero_add] at this
    have za_9 : w7.cell? ⟨w1.heap.size, 9, none⟩ = some (.int .i64 a.d.re) := by have := Ha.out 9 _ rfl; rwa [Nat.zero_add] at this
    have za_10 : w7.cell? ⟨w1.heap.size, 10, none⟩ = some (.int .i64 a.d.im) := by have := Ha.out 10 _ rfl; rwa [Nat.zero_add] at this
    have za_11 : w7.cell? ⟨w1.heap.size, 11, none⟩ = some (.int .i64 a.d.den) := by have := Ha.out 11 _ rfl; rwa [Nat.zero_add] at this
    have zx_0 : w7.cell? ⟨w5.heap.size, 0, none⟩ = some (.int .i64 a.a.re) := by have := Hx.out 0 _ rfl; rwa [Nat.zero_add] at this
    have zx_1 : w7.cell? ⟨w5.heap.size, 1, none⟩ = some (.int .i64 a.a.im) := by have := Hx.out 1 _ rfl; rwa [Nat.zero_add] at this
    have zx_2 : w7.cell? ⟨w5.heap.size, 2, none⟩ = some (.int .i64 a.a.den) := by have := Hx.out 2 _ rfl; rwa [Nat.zero_add] at this
    have zx_3 : w7.cell? ⟨w5.heap.size, 3, none⟩ = some (.int .i64 a.b.re) := by have := Hx.out 3 _ rfl; rwa [Nat.zero_add] at this
    have zx_4 : w7.cell? ⟨w5.heap.size, 4, none⟩ = some (.int .i64 a.b.im) := by have := Hx.out 4 _ rfl; rwa [Nat.zero_add] at this
    have zx_5 : w7.cell? ⟨w5.heap.size, 5, none⟩ = some (.int .i64 a.b.den) := by have := Hx.out 5 _ rfl; rwa [Nat.zero_add] at this
    have zx_6 : w7.cell? ⟨w5.heap.size, 6, none⟩ = some (.int .i64 a.c.re) := by have := Hx.out 6 _ rfl; rwa [Nat.zero_add] at this
    have zx_7 : w7.cell? ⟨w5.heap.size, 7, none⟩ = some (.int .i64 a.c.im) := by have := Hx.out 7 _ rfl; rwa [Nat.zero_add] at this
    have zx_8 : w7.cell? ⟨w5.heap.size, 8, none⟩ = some (.int .i64 a.c.den) := by have := Hx.out 8 _ rfl; rwa [Nat.zero_add] at this
    have zx_9 : w7.cell? ⟨w5.heap.size, 9, none⟩ = some (.int .i64 a.d.re) := by have := Hx.out 9 _ rfl; rwa [Nat.zero_add] at this
    have zx_10 : w7.cell? ⟨w5.heap.size, 10, none⟩ = some (.int .i64 a.d.im) := by have := Hx.out 10 _ rfl; rwa [Nat.zero_add] at this
    have zx_11 : w7.cell? ⟨w5.heap.size, 11, none⟩ = some (.int .i64 a.d.den) := by have := Hx.out 11 _ rfl; rwa [Nat.zero_add] at this
    have zy_0 : w7.cell? ⟨w6.heap.size, 0, none⟩ = some (.int .i64 a.a.re) := by have := Hy.out 0 _ rfl; rwa [Nat.zero_add] at this
    have zy_1 : w7.cell? ⟨w6.heap.size, 1, none⟩ = some (.int .i64 a.a.im) := by have := Hy.out 1 _ rfl; rwa [Nat.zero_add] at this
    have zy_2 : w7.cell? ⟨w6.heap.size, 2, none⟩ = some (.int .i64 a.a.den) := by have := Hy.out 2 _ rfl; rwa [Nat.zero_add] at this
    have zy_3 : w7.cell? ⟨w6.heap.size, 3, none⟩ = some (.int .i64 a.b.re) := by have := Hy.out 3 _ rfl; rwa [Nat.zero_add] at this
    have zy_4 : w7.cell? ⟨w6.heap.size, 4, none⟩ = some (.int .i64 a.b.im) := by have := Hy.out 4 _ rfl; rwa [Nat.zero_add] at this
    have zy_5 : w7.cell? ⟨w6.heap.size, 5, none⟩ = some (.int .i64 a.b.den) := by have := Hy.out 5 _ rfl; rwa [Nat.zero_add] at this
    have zy_6 : w7.cell? ⟨w6.heap.size, 6, none⟩ = some (.int .i64 a.c.re) := by have := Hy.out 6 _ rfl; rwa [Nat.zero_add] at this
    have zy_7 : w7.cell? ⟨w6.heap.size, 7, none⟩ = some (.int .i64 a.c.im) := by have := Hy.out 7 _ rfl; rwa [Nat.zero_add] at this
    have zy_8 : w7.cell? ⟨w6.heap.size, 8, none⟩ = some (.int .i64 a.c.den) := by have := Hy.out 8 _ rfl; rwa [Nat.zero_add] at this
    have zy_9 : w7.cell? ⟨w6.heap.size, 9, none⟩ = some (.int .i64 a.d.re) := by have := Hy.out 9 _ rfl; rwa [Nat.zero_add] at this
    have zy_10 : w7.cell? ⟨w6.heap.size, 10, none⟩ = some (.int .i64 a.d.im) := by have := Hy.out 10 _ rfl; rwa [Nat.zero_add] at this
    have zy_11 : w7.cell? ⟨w6.heap.size, 11, none⟩ = some (.int .i64 a.d.den) := by have := Hy.out 11 _ rfl; rwa [Nat.zero_add] at this
    go_wp2_with fail
    go_ret
    exact ⟨rfl, (by (repeat' first | (with_reducible exact HB.out) | with_reducible refine setCells_below _ _ _ ?_ (by first | omega | (simp <;> omega)) | with_reducible refine Below.setCell ?_ (by show _ ≤ _; first | omega | (simp <;> omega) | simp) _ | with_reducible refine Below.alloc ?_ (by first | omega | (simp <;> omega)) _ | with_reducible apply Below.drew))⟩

set_option maxRecDepth 100000 in
theorem lifted_FnMat (os : Os) (started : os.Started) (H : Type) (enc : TypeId × Value → H) :
    ReturnsInHanded {} Try.checked os 5 .any (Rows.fnMatSpec.pre6 enc Try.prog Try.f5 Rows.fnMatRow.domain false) (Rows.fnMatSpec.post enc Try.prog Try.f5 false true false false) := by
  refine returnsInHanded_of_change (C := Try.checked) Try.own started (by kernel_rfl) Try.func5
    (ChangeSpec.witness6 (enc := enc) (C := Try.checked) false ⟨#[], #[.slice none 0 0], []⟩ 8 (by kernel_rfl) (by kernel_rfl) (by kernel_rfl) (by kernel_rfl)) ?_
  intro W base args ds gs before hval0 hW hcnd _
  have hval : ∀ (j : Nat) t v, Try.f5.params[j]? = some t → args[j]? = some v → Value.okWide Try.prog W .any base t v := hval0
  have hW' := hW
  obtain ⟨p, q, hA0, hV, rfl, hfz, hnd⟩ := hW
  have hA : DataW.TrodAll enc Try.prog W 0 (fun _ => true) true Try.f5.params.toList args.toList ds p := hA0
  rw [Try.params5] at hA hval
  obtain ⟨v0, d0, rfl, rfl, h0⟩ := trodAll_one hA
  obtain ⟨rfl, rfl⟩ := trodVars_none hV
  have h0k := h0
  obtain ⟨fuel, hf⟩ := h0
  clear hA0 hval0
  simp only [List.append_nil] at hW'
  have hlt : ∀ x ∈ p, x.block < W.heap.size := fun x hx => by simpa using hW'.lt x hx
  obtain ⟨a0, len, cap, rfl⟩ := okWide_slice Try.underlying22 (hval 0 22 v0 rfl rfl)
  obtain ⟨hcap, HC⟩ := open_code hf hlt
  refine (walk_FnMat a0 len cap W hcap HC).mono fun e W' ⟨he, hb⟩ => ?_
  subst he
  refine ⟨_, rfl, _, _, _, [], p, [], hW', trodAll_mk1 (shut_bool Try.underlying4 _), trodAll_mk1 (Below.trod Try.laidOut (by kernel_rfl) (of_decide_eq_true (by kernel_rfl)) h0k hb (fun x hx => hlt x (by simp [hx]))), rfl, hb.frame _, fun h => by cases h⟩

/-- THE STATEMENT. -/
theorem holds_FnMat : Rows.FnMatSaid :=
  OpenClaim.holds_of_wide 5 Try.f5 rfl rfl rfl rfl rfl rfl rfl ⟨rfl, rfl, rfl, rfl, rfl⟩ rfl rfl rfl rfl rfl (by kernel_rfl) Try.func5 (by kernel_rfl)
    (of_decide_eq_true (by kernel_rfl)) (by unfold Func.isWrapper; first | (rw [if_pos (by decide +kernel)]; kernel_rfl) | (rw [if_neg (by decide +kernel)]; exact ⟨rfl, rfl⟩))
    (fun os started H enc _ => lifted_FnMat os started H enc)
end Go.Proofs.Ytcpdapfcbnhgaaa
