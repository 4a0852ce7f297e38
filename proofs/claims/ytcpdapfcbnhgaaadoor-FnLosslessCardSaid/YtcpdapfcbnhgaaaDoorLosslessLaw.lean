/- Adjoints of lossless matrices are lossless. The row lists package-level variables, and the card ties them to the text of the program: the pruned copy of the project that the seat holds. -/
import Derived.Test.YtcpdapfcbnhgaaaDoorDW3
import Derived.Test.YtcpdapfcbnhgaaaDoorPV
import Derived.Test.YtcpdapfcbnhgaaaDoorTie
import Derived.Test.YtcpdapfcbnhgaaaDoorCards
import Derived.SevenTiedAt
import Derived.Test.YtcpdapfcbnhgaaaDoorQL
import Derived.Test.YtcpdapfcbnhgaaaDoorNC
import Derived.Test.YtcpdapfcbnhgaaaDoorZ
import Derived.Test.YtcpdapfcbnhgaaaDoorEQ2
namespace Go.Proofs.YtcpdapfcbnhgaaaDoor
open Go.ChangeShapes Go.WideShapes Go.ChangeAt Go.RowKit Pol

set_option maxRecDepth 100000 in
set_option maxHeartbeats 40000000 in
theorem walk_FnLossless (a0 : Option Addr) (len cap : Nat) (w : World) (hcap : len ≤ cap) (HC : Code w.heap.size w a0 len) (hg_same : Gat w 0 mSame.get 4) :
    Calls Tryd.prog 7 #[.slice a0 len cap] w fun e w' => e = .returned (.bool true) ∧ Below w.heap.size w w' := by
  by_cases hbig : 1048576 < len
  · have h1 : (1048576 : Int) < (len : Int) := by omega
    go_enter Tryd.func7, Tryd.ntmps7
    go_wp2
    go_ret
    exact ⟨rfl, Below.refl _ _⟩
  have h1 : ¬ (1048576 : Int) < (len : Int) := by omega
  have HG_same := Lib.hid hg_same; clear hg_same
  go_enter Tryd.func7, Tryd.ntmps7
  go_wp2_with fail
  refine (DrawMatLossless_any a0 len cap _ hcap HC).mono ?_
  rintro e w1 ⟨a, rfl, hb⟩
  rw [cl4 a]
  have HB := Lib.hid (show Below w.heap.size w w1 from hb)
  have hz1 := hb.size
  (try simp at hz1)
  clear hb
  cases hl : gLos a
  · skip
    go_wp2_with (first | ((with_reducible refine wpList_load_mid ?kl11 45 ?kl1x ?kl12 (w1.heap.size) 0 ?kl13 [.int .i64 a.a.re, .int .i64 a.a.im, .int .i64 a.a.den, .int .i64 a.b.re, .int .i64 a.b.im, .int .i64 a.b.den, .int .i64 a.c.re, .int .i64 a.c.im, .int .i64 a.c.den, .int .i64 a.d.re, .int .i64 a.d.im, .int .i64 a.d.den] ?kl1d ?kl14 ?kl15 ?kl16 ?kl17 ?kl18); (case kl12 => rfl); (case kl11 => rfl); (case kl13 => rfl); (case kl14 => (exact (rangeAt_new _ _ _))); (case kl15 => exact Tryd.underlying45); (case kl16 => rfl); (case kl17 => kernel_rfl)))
    refine (ilos_any a _ (HG_same.out.below (Below.alloc HB.out (by first | omega | (simp; done) | (simp <;> omega)) _))).mono ?_
    rintro e w2 ho
    rw [hl] at ho
    obtain ⟨rfl, hb⟩ : e = .returned (.bool false) ∧ Below _ _ _ := (id ho)
    clear ho
    have HB := Lib.hid (show Below w.heap.size w w2 from HB.out.trans ((show Below _ _ _ from ((Below.refl _ _).alloc (by omega) _)).trans (hb.mono (by first | omega | (simp <;> omega)))))
    have Ha : Hid (w2.rangeAt w1.heap.size 0 [.int .i64 a.a.re, .int .i64 a.a.im, .int .i64 a.a.den, .int .i64 a.b.re, .int .i64 a.b.im, .int .i64 a.b.den, .int .i64 a.c.re, .int .i64 a.c.im, .int .i64 a.c.den, .int .i64 a.d.re, .int .i64 a.d.im, .int .i64 a.d.den]) := rangeAt_below (rangeAt_new _ _ _) hb (by first | omega | (simp; done) | (simp <;> omega))
    have hz2 := hb.size
    (try simp at hz2)
    clear hb
    have nA0 : w1.heap.size < w2.heap.size := by omega
    have nB0 : ¬ w1.heap.size = w2.heap.size := by omega
    have nC0 : ¬ w2.heap.size = w1.heap.size := by omega
    go_wp2_with (first | ((with_reducible refine wpList_load_mid ?kl21 45 ?kl2x ?kl22 (w1.heap.size) 0 ?kl23 [.int .i64 a.a.re, .int .i64 a.a.im, .int .i64 a.a.den, .int .i64 a.b.re, .int .i64 a.b.im, .int .i64 a.b.den, .int .i64 a.c.re, .int .i64 a.c.im, .int .i64 a.c.den, .int .i64 a.d.re, .int .i64 a.d.im, .int .i64 a.d.den] ?kl2d ?kl24 ?kl25 ?kl26 ?kl27 ?kl28); (case kl22 => rfl); (case kl21 => rfl); (case kl23 => rfl); (case kl24 => (exact Ha.out)); (case kl25 => exact Tryd.underlying45); (case kl26 => rfl); (case kl27 => kernel_rfl)))
    refine (slos_any a _).mono ?_
    rintro e w3 ho
    rw [hl] at ho
    obtain ⟨rfl, hb⟩ : e = .returned (.bool false) ∧ Below _ _ _ := (id ho)
    clear ho
    have HB := Lib.hid (show Below w.heap.size w w3 from HB.out.trans ((show Below _ _ _ from (Below.refl _ _)).trans (hb.mono (by first | omega | (simp <;> omega)))))
    have Ha : Hid (w3.rangeAt (w1.heap.size) 0 [.int .i64 a.a.re, .int .i64 a.a.im, .int .i64 a.a.den, .int .i64 a.b.re, .int .i64 a.b.im, .int .i64 a.b.den, .int .i64 a.c.re, .int .i64 a.c.im, .int .i64 a.c.den, .int .i64 a.d.re, .int .i64 a.d.im, .int .i64 a.d.den]) := rangeAt_below Ha.out hb (by omega)
    have hz3 := hb.size
    (try simp at hz3)
    clear hb
    have nA0 : w1.heap.size < w3.heap.size := by omega
    have nB0 : ¬ w1.heap.size = w3.heap.size := by omega
    have nC0 : ¬ w3.heap.size = w1.heap.size := by omega
    go_wp2_with fail
    go_ret
    exact ⟨rfl, (by (repeat' first | (with_reducible exact HB.out) | with_reducible refine setCells_below _ _ _ ?_ (by first | omega | (simp <;> omega)) | with_reducible refine Below.setCell ?_ (by show _ ≤ _; first | omega | (simp <;> omega) | simp) _ | with_reducible refine Below.alloc ?_ (by first | omega | (simp <;> omega)) _ | with_reducible apply Below.drew))⟩
  · skip
    have hv := (gLos_parts hl).1
    have HA : Hid (gAdj a = (mC a, true)) := gAdj_y hv
    have HO : Hid (gRot 1 0 = (mOne, true)) := rot_one
    have hlaw := fun X => @law_lossless a X hl
    have HLa := Lib.hid hl
    obtain ⟨c, hc⟩ : ∃ c, c = mC a := ⟨_, rfl⟩
    rw [← hc] at HA hlaw
    obtain ⟨I, hI⟩ : ∃ I, I = mOne := ⟨_, rfl⟩
    rw [← hI] at HO hlaw
    clear hc hI hl hv
    obtain ⟨X, r, hX⟩ : ∃ X r, mTm c a = (X, r) := ⟨_, _, rfl⟩
    have HW := Lib.hid (fun (h : r = true) => hlaw X (by rw [hX, h]))
    have HX := Lib.hid hX
    clear hX hlaw
    go_wp2_with (first | ((with_reducible refine wpList_load_mid ?kl31 45 ?kl3x ?kl32 (w1.heap.size) 0 ?kl33 [.int .i64 a.a.re, .int .i64 a.a.im, .int .i64 a.a.den, .int .i64 a.b.re, .int .i64 a.b.im, .int .i64 a.b.den, .int .i64 a.c.re, .int .i64 a.c.im, .int .i64 a.c.den, .int .i64 a.d.re, .int .i64 a.d.im, .int .i64 a.d.den] ?kl3d ?kl34 ?kl35 ?kl36 ?kl37 ?kl38); (case kl32 => rfl); (case kl31 => rfl); (case kl33 => rfl); (case kl34 => (exact (rangeAt_new _ _ _))); (case kl35 => exact Tryd.underlying45); (case kl36 => rfl); (case kl37 => kernel_rfl)))
    refine (ilos_any a _ (HG_same.out.below (Below.alloc HB.out (by first | omega | (simp; done) | (simp <;> omega)) _))).mono ?_
    rintro e w2 ho
    rw [HLa.out] at ho
    obtain ⟨rfl, hb⟩ : e = .returned (.bool true) ∧ Below _ _ _ := (id ho)
    clear ho
    have HB := Lib.hid (show Below w.heap.size w w2 from HB.out.trans ((show Below _ _ _ from ((Below.refl _ _).alloc (by omega) _)).trans (hb.mono (by first | omega | (simp <;> omega)))))
    have Ha : Hid (w2.rangeAt w1.heap.size 0 [.int .i64 a.a.re, .int .i64 a.a.im, .int .i64 a.a.den, .int .i64 a.b.re, .int .i64 a.b.im, .int .i64 a.b.den, .int .i64 a.c.re, .int .i64 a.c.im, .int .i64 a.c.den, .int .i64 a.d.re, .int .i64 a.d.im, .int .i64 a.d.den]) := rangeAt_below (rangeAt_new _ _ _) hb (by first | omega | (simp; done) | (simp <;> omega))
    have hz2 := hb.size
    (try simp at hz2)
    clear hb
    have nA0 : w1.heap.size < w2.heap.size := by omega
    have nB0 : ¬ w1.heap.size = w2.heap.size := by omega
    have nC0 : ¬ w2.heap.size = w1.heap.size := by omega
    go_wp2_with (first | ((with_reducible refine wpList_load_mid ?kl41 45 ?kl4x ?kl42 (w1.heap.size) 0 ?kl43 [.int .i64 a.a.re, .int .i64 a.a.im, .int .i64 a.a.den, .int .i64 a.b.re, .int .i64 a.b.im, .int .i64 a.b.den, .int .i64 a.c.re, .int .i64 a.c.im, .int .i64 a.c.den, .int .i64 a.d.re, .int .i64 a.d.im, .int .i64 a.d.den] ?kl4d ?kl44 ?kl45 ?kl46 ?kl47 ?kl48); (case kl42 => rfl); (case kl41 => rfl); (case kl43 => rfl); (case kl44 => (exact Ha.out)); (case kl45 => exact Tryd.underlying45); (case kl46 => rfl); (case kl47 => kernel_rfl)))
    refine (slos_any a _).mono ?_
    rintro e w3 ho
    rw [HLa.out] at ho
    obtain ⟨rfl, hb⟩ : e = .returned (.bool true) ∧ Below _ _ _ := (id ho)
    clear ho
    have HB := Lib.hid (show Below w.heap.size w w3 from HB.out.trans ((show Below _ _ _ from (Below.refl _ _)).trans (hb.mono (by first | omega | (simp <;> omega)))))
    have Ha : Hid (w3.rangeAt (w1.heap.size) 0 [.int .i64 a.a.re, .int .i64 a.a.im, .int .i64 a.a.den, .int .i64 a.b.re, .int .i64 a.b.im, .int .i64 a.b.den, .int .i64 a.c.re, .int .i64 a.c.im, .int .i64 a.c.den, .int .i64 a.d.re, .int .i64 a.d.im, .int .i64 a.d.den]) := rangeAt_below Ha.out hb (by omega)
    have hz3 := hb.size
    (try simp at hz3)
    clear hb
    have nA0 : w1.heap.size < w3.heap.size := by omega
    have nB0 : ¬ w1.heap.size = w3.heap.size := by omega
    have nC0 : ¬ w3.heap.size = w1.heap.size := by omega
    go_wp2_with (first | ((with_reducible refine wpList_load_mid ?kl51 45 ?kl5x ?kl52 (w1.heap.size) 0 ?kl53 [.int .i64 a.a.re, .int .i64 a.a.im, .int .i64 a.a.den, .int .i64 a.b.re, .int .i64 a.b.im, .int .i64 a.b.den, .int .i64 a.c.re, .int .i64 a.c.im, .int .i64 a.c.den, .int .i64 a.d.re, .int .i64 a.d.im, .int .i64 a.d.den] ?kl5d ?kl54 ?kl55 ?kl56 ?kl57 ?kl58); (case kl52 => rfl); (case kl51 => rfl); (case kl53 => rfl); (case kl54 => (exact Ha.out)); (case kl55 => exact Tryd.underlying45); (case kl56 => rfl); (case kl57 => kernel_rfl)))
    refine (imatadj_any a _).mono ?_
    rintro e w4 ho
    rw [HA.out] at ho
    obtain ⟨rfl, hb⟩ : e = .returned (.tuple #[.agg #[.int .i64 c.a.re, .int .i64 c.a.im, .int .i64 c.a.den, .int .i64 c.b.re, .int .i64 c.b.im, .int .i64 c.b.den, .int .i64 c.c.re, .int .i64 c.c.im, .int .i64 c.c.den, .int .i64 c.d.re, .int .i64 c.d.im, .int .i64 c.d.den], .bool true]) ∧ Below _ _ _ := ho.fn
    clear ho
    have HB := Lib.hid (show Below w.heap.size w w4 from HB.out.trans ((show Below _ _ _ from (Below.refl _ _)).trans (hb.mono (by first | omega | (simp <;> omega)))))
    have Ha : Hid (w4.rangeAt (w1.heap.size) 0 [.int .i64 a.a.re, .int .i64 a.a.im, .int .i64 a.a.den, .int .i64 a.b.re, .int .i64 a.b.im, .int .i64 a.b.den, .int .i64 a.c.re, .int .i64 a.c.im, .int .i64 a.c.den, .int .i64 a.d.re, .int .i64 a.d.im, .int .i64 a.d.den]) := rangeAt_below Ha.out hb (by omega)
    have hz4 := hb.size
    (try simp at hz4)
    clear hb
    have nA0 : w1.heap.size < w4.heap.size := by omega
    have nB0 : ¬ w1.heap.size = w4.heap.size := by omega
    have nC0 : ¬ w4.heap.size = w1.heap.size := by omega
    go_wp2_with fail
    refine (irot_any 1 0 _).mono ?_
    rintro e w5 ho
    rw [HO.out] at ho
    obtain ⟨rfl, hb⟩ : e = .returned (.tuple #[.agg #[.int .i64 I.a.re, .int .i64 I.a.im, .int .i64 I.a.den, .int .i64 I.b.re, .int .i64 I.b.im, .int .i64 I.b.den, .int .i64 I.c.re, .int .i64 I.c.im, .int .i64 I.c.den, .int .i64 I.d.re, .int .i64 I.d.im, .int .i64 I.d.den], .bool true]) ∧ Below _ _ _ := ho.fn
    clear ho
    have HB := Lib.hid (show Below w.heap.size w w5 from HB.out.trans ((show Below _ _ _ from ((Below.refl _ _).alloc (by omega) _)).trans (hb.mono (by first | omega | (simp <;> omega)))))
    have Ha : Hid (w5.rangeAt (w1.heap.size) 0 [.int .i64 a.a.re, .int .i64 a.a.im, .int .i64 a.a.den, .int .i64 a.b.re, .int .i64 a.b.im, .int .i64 a.b.den, .int .i64 a.c.re, .int .i64 a.c.im, .int .i64 a.c.den, .int .i64 a.d.re, .int .i64 a.d.im, .int .i64 a.d.den]) := rangeAt_below (World.rangeAt_alloc Ha.out _) hb (by first | omega | (simp; done) | (simp <;> omega))
    have Had : Hid (w5.rangeAt w4.heap.size 0 [.int .i64 c.a.re, .int .i64 c.a.im, .int .i64 c.a.den, .int .i64 c.b.re, .int .i64 c.b.im, .int .i64 c.b.den, .int .i64 c.c.re, .int .i64 c.c.im, .int .i64 c.c.den, .int .i64 c.d.re, .int .i64 c.d.im, .int .i64 c.d.den]) := rangeAt_below (rangeAt_new _ _ _) hb (by first | omega | (simp; done) | (simp <;> omega))
    have hz5 := hb.size
    (try simp at hz5)
    clear hb
    have nA0 : w1.heap.size < w5.heap.size := by omega
    have nB0 : ¬ w1.heap.size = w5.heap.size := by omega
    have nC0 : ¬ w5.heap.size = w1.heap.size := by omega
    have nA1 : w4.heap.size < w5.heap.size := by omega
    have nB1 : ¬ w4.heap.size = w5.heap.size := by omega
    have nC1 : ¬ w5.heap.size = w4.heap.size := by omega
    go_wp2_with (first | ((with_reducible refine wpList_load_mid ?kl61 45 ?kl6x ?kl62 (w4.heap.size) 0 ?kl63 [.int .i64 c.a.re, .int .i64 c.a.im, .int .i64 c.a.den, .int .i64 c.b.re, .int .i64 c.b.im, .int .i64 c.b.den, .int .i64 c.c.re, .int .i64 c.c.im, .int .i64 c.c.den, .int .i64 c.d.re, .int .i64 c.d.im, .int .i64 c.d.den] ?kl6d ?kl64 ?kl65 ?kl66 ?kl67 ?kl68); (case kl62 => rfl); (case kl61 => rfl); (case kl63 => rfl); (case kl64 => (exact (World.rangeAt_alloc Had.out _))); (case kl65 => exact Tryd.underlying45); (case kl66 => rfl); (case kl67 => kernel_rfl)) | ((with_reducible refine wpList_load_mid ?kl71 45 ?kl7x ?kl72 (w1.heap.size) 0 ?kl73 [.int .i64 a.a.re, .int .i64 a.a.im, .int .i64 a.a.den, .int .i64 a.b.re, .int .i64 a.b.im, .int .i64 a.b.den, .int .i64 a.c.re, .int .i64 a.c.im, .int .i64 a.c.den, .int .i64 a.d.re, .int .i64 a.d.im, .int .i64 a.d.den] ?kl7d ?kl74 ?kl75 ?kl76 ?kl77 ?kl78); (case kl72 => rfl); (case kl71 => rfl); (case kl73 => rfl); (case kl74 => (exact (World.rangeAt_alloc Ha.out _))); (case kl75 => exact Tryd.underlying45); (case kl76 => rfl); (case kl77 => kernel_rfl)))
    refine (imtm_m c a _).mono ?_
    rintro e w6 ho
    rw [HX.out] at ho
    obtain ⟨rfl, hb⟩ : e = .returned (.tuple #[.agg #[.int .i64 X.a.re, .int .i64 X.a.im, .int .i64 X.a.den, .int .i64 X.b.re, .int .i64 X.b.im, .int .i64 X.b.den, .int .i64 X.c.re, .int .i64 X.c.im, .int .i64 X.c.den, .int .i64 X.d.re, .int .i64 X.d.im, .int .i64 X.d.den], .bool r]) ∧ Below _ _ _ := ho.fn
    clear ho
    have HB := Lib.hid (show Below w.heap.size w w6 from HB.out.trans ((show Below _ _ _ from ((Below.refl _ _).alloc (by omega) _)).trans (hb.mono (by first | omega | (simp <;> omega)))))
    have Ha : Hid (w6.rangeAt (w1.heap.size) 0 [.int .i64 a.a.re, .int .i64 a.a.im, .int .i64 a.a.den, .int .i64 a.b.re, .int .i64 a.b.im, .int .i64 a.b.den, .int .i64 a.c.re, .int .i64 a.c.im, .int .i64 a.c.den, .int .i64 a.d.re, .int .i64 a.d.im, .int .i64 a.d.den]) := rangeAt_below (World.rangeAt_alloc Ha.out _) hb (by first | omega | (simp; done) | (simp <;> omega))
    have Had : Hid (w6.rangeAt (w4.heap.size) 0 [.int .i64 c.a.re, .int .i64 c.a.im, .int .i64 c.a.den, .int .i64 c.b.re, .int .i64 c.b.im, .int .i64 c.b.den, .int .i64 c.c.re, .int .i64 c.c.im, .int .i64 c.c.den, .int .i64 c.d.re, .int .i64 c.d.im, .int .i64 c.d.den]) := rangeAt_below (World.rangeAt_alloc Had.out _) hb (by first | omega | (simp; done) | (simp <;> omega))
    have Hone : Hid (w6.rangeAt w5.heap.size 0 [.int .i64 I.a.re, .int .i64 I.a.im, .int .i64 I.a.den, .int .i64 I.b.re, .int .i64 I.b.im, .int .i64 I.b.den, .int .i64 I.c.re, .int .i64 I.c.im, .int .i64 I.c.den, .int .i64 I.d.re, .int .i64 I.d.im, .int .i64 I.d.den]) := rangeAt_below (rangeAt_new _ _ _) hb (by first | omega | (simp; done) | (simp <;> omega))
    have hz6 := hb.size
    (try simp at hz6)
    clear hb
    have nA0 : w1.heap.size < w6.heap.size := by omega
    have nB0 : ¬ w1.heap.size = w6.heap.size := by omega
    have nC0 : ¬ w6.heap.size = w1.heap.size := by omega
    have nA1 : w4.heap.size < w6.heap.size := by omega
    have nB1 : ¬ w4.heap.size = w6.heap.size := by omega
    have nC1 : ¬ w6.heap.size = w4.heap.size := by omega
    have nA2 : w5.heap.size < w6.heap.size := by omega
    have nB2 : ¬ w5.heap.size = w6.heap.size := by omega
    have nC2 : ¬ w6.heap.size = w5.heap.size := by omega
    cases r
    · skip
      go_wp2_with fail
      go_ret
      exact ⟨rfl, (by (repeat' first | (with_reducible exact HB.out) | with_reducible refine setCells_below _ _ _ ?_ (by first | omega | (simp <;> omega)) | with_reducible refine Below.setCell ?_ (by show _ ≤ _; first | omega | (simp <;> omega) | simp) _ | with_reducible refine Below.alloc ?_ (by first | omega | (simp <;> omega)) _ | with_reducible apply Below.drew))⟩
    · skip
      obtain ⟨e, hlc⟩ := HW.out rfl
      have HLc := Lib.hid hlc
      clear hlc
      have hEqx : ∀ w, (Op.equalIn 10000 45 (.agg #[.int .i64 X.a.re, .int .i64 X.a.im, .int .i64 X.a.den, .int .i64 X.b.re, .int .i64 X.b.im, .int .i64 X.b.den, .int .i64 X.c.re, .int .i64 X.c.im, .int .i64 X.c.den, .int .i64 X.d.re, .int .i64 X.d.im, .int .i64 X.d.den]) (.agg #[.int .i64 I.a.re, .int .i64 I.a.im, .int .i64 I.a.den, .int .i64 I.b.re, .int .i64 I.b.im, .int .i64 I.b.den, .int .i64 I.c.re, .int .i64 I.c.im, .int .i64 I.c.den, .int .i64 I.d.re, .int .i64 I.d.im, .int .i64 I.d.den])).run Tryd.prog w = .ok true w := by subst e; exact eqMat_run _
      clear e
      have zad_0 : w6.cell? ⟨w4.heap.size, 0, none⟩ = some (.int .i64 c.a.re) := by have := Had.out 0 _ rfl; rwa [Nat.zero_add] at this
      have zad_1 : w6.cell? ⟨w4.heap.size, 1, none⟩ = some (.int .i64 c.a.im) := by have := Had.out 1 _ rfl; rwa [Nat.zero_add] at this
      have zad_2 : w6.cell? ⟨w4.heap.size, 2, none⟩ = some (.int .i64 c.a.den) := by have := Had.out 2 _ rfl; rwa [Nat.zero_add] at this
      have zad_3 : w6.cell? ⟨w4.heap.size, 3, none⟩ = some (.int .i64 c.b.re) := by have := Had.out 3 _ rfl; rwa [Nat.zero_add] at this
      have zad_4 : w6.cell? ⟨w4.heap.size, 4, none⟩ = some (.int .i64 c.b.im) := by have := Had.out 4 _ rfl; rwa [Nat.zero_add] at this
      have zad_5 : w6.cell? ⟨w4.heap.size, 5, none⟩ = some (.int .i64 c.b.den) := by have := Had.out 5 _ rfl; rwa [Nat.zero_add] at this
      have zad_6 : w6.cell? ⟨w4.heap.size, 6, none⟩ = some (.int .i64 c.c.re) := by have := Had.out 6 _ rfl; rwa [Nat.zero_add] at this
      have zad_7 : w6.cell? ⟨w4.heap.size, 7, none⟩ = some (.int .i64 c.c.im) := by have := Had.out 7 _ rfl; rwa [Nat.zero_add] at this
      have zad_8 : w6.cell? ⟨w4.heap.size, 8, none⟩ = some (.int .i64 c.c.den) := by have := Had.out 8 _ rfl; rwa [Nat.zero_add] at this
      have zad_9 : w6.cell? ⟨w4.heap.size, 9, none⟩ = some (.int .i64 c.d.re) := by have := Had.out 9 _ rfl; rwa [Nat.zero_add] at this
      have zad_10 : w6.cell? ⟨w4.heap.size, 10, none⟩ = some (.int .i64 c.d.im) := by have := Had.out 10 _ rfl; rwa [Nat.zero_add] at this
      have zad_11 : w6.cell? ⟨w4.heap.size, 11, none⟩ = some (.int .i64 c.d.den) := by have := Had.out 11 _ rfl; rwa [Nat.zero_add] at this
      have zone_0 : w6.cell? ⟨w5.heap.size, 0, none⟩ = some (.int .i64 I.a.re) := by have := Hone.out 0 _ rfl; rwa [Nat.zero_add] at this
      have zone_1 : w6.cell? ⟨w5.heap.size, 1, none⟩ = some (.int .i64 I.a.im) := by have := Hone.out 1 _ rfl; rwa [Nat.zero_add] at this
      have zone_2 : w6.cell? ⟨w5.heap.size, 2, none⟩ = some (.int .i64 I.a.den) := by have := Hone.out 2 _ rfl; rwa [Nat.zero_add] at this
      have zone_3 : w6.cell? ⟨w5.heap.size, 3, none⟩ = some (.int .i64 I.b.re) := by have := Hone.out 3 _ rfl; rwa [Nat.zero_add] at this
      have zone_4 : w6.cell? ⟨w5.heap.size, 4, none⟩ = some (.int .i64 I.b.im) := by have := Hone.out 4 _ rfl; rwa [Nat.zero_add] at this
      have zone_5 : w6.cell? ⟨w5.heap.size, 5, none⟩ = some (.int .i64 I.b.den) := by have := Hone.out 5 _ rfl; rwa [Nat.zero_add] at this
      have zone_6 : w6.cell? ⟨w5.heap.size, 6, none⟩ = some (.int .i64 I.c.re) := by have := Hone.out 6 _ rfl; rwa [Nat.zero_add] at this
      have zone_7 : w6.cell? ⟨w5.heap.size, 7, none⟩ = some (.int .i64 I.c.im) := by have := Hone.out 7 _ rfl; rwa [Nat.zero_add] at this
      have zone_8 : w6.cell? ⟨w5.heap.size, 8, none⟩ = some (.int .i64 I.c.den) := by have := Hone.out 8 _ rfl; rwa [Nat.zero_add] at this
      have zone_9 : w6.cell? ⟨w5.heap.size, 9, none⟩ = some (.int .i64 I.d.re) := by have := Hone.out 9 _ rfl; rwa [Nat.zero_add] at this
      have zone_10 : w6.cell? ⟨w5.heap.size, 10, none⟩ = some (.int .i64 I.d.im) := by have := Hone.out 10 _ rfl; rwa [Nat.zero_add] at this
      have zone_11 : w6.cell? ⟨w5.heap.size, 11, none⟩ = some (.int .i64 I.d.den) := by have := Hone.out 11 _ rfl; rwa [Nat.zero_add] at this
      go_wp2_with fail
      refine (ilos_any c _ (HG_same.out.below (Below.alloc HB.out (by first | omega | (simp; done) | (simp <;> omega)) _))).mono ?_
      rintro e w7 ho
      rw [HLc.out] at ho
      obtain ⟨rfl, hb⟩ : e = .returned (.bool true) ∧ Below _ _ _ := (id ho)
      clear ho
      have HB := Lib.hid (show Below w.heap.size w w7 from HB.out.trans ((show Below _ _ _ from ((Below.refl _ _).alloc (by omega) _)).trans (hb.mono (by first | omega | (simp <;> omega)))))
      have Ha : Hid (w7.rangeAt (w1.heap.size) 0 [.int .i64 a.a.re, .int .i64 a.a.im, .int .i64 a.a.den, .int .i64 a.b.re, .int .i64 a.b.im, .int .i64 a.b.den, .int .i64 a.c.re, .int .i64 a.c.im, .int .i64 a.c.den, .int .i64 a.d.re, .int .i64 a.d.im, .int .i64 a.d.den]) := rangeAt_below (World.rangeAt_alloc Ha.out _) hb (by first | omega | (simp; done) | (simp <;> omega))
      have Had : Hid (w7.rangeAt (w4.heap.size) 0 [.int .i64 c.a.re, .int .i64 c.a.im, .int .i64 c.a.den, .int .i64 c.b.re, .int .i64 c.b.im, .int .i64 c.b.den, .int .i64 c.c.re, .int .i64 c.c.im, .int .i64 c.c.den, .int .i64 c.d.re, .int .i64 c.d.im, .int .i64 c.d.den]) := rangeAt_below (World.rangeAt_alloc Had.out _) hb (by first | omega | (simp; done) | (simp <;> omega))
      have Hone : Hid (w7.rangeAt (w5.heap.size) 0 [.int .i64 I.a.re, .int .i64 I.a.im, .int .i64 I.a.den, .int .i64 I.b.re, .int .i64 I.b.im, .int .i64 I.b.den, .int .i64 I.c.re, .int .i64 I.c.im, .int .i64 I.c.den, .int .i64 I.d.re, .int .i64 I.d.im, .int .i64 I.d.den]) := rangeAt_below (World.rangeAt_alloc Hone.out _) hb (by first | omega | (simp; done) | (simp <;> omega))
      have Hbx : Hid (w7.rangeAt w6.heap.size 0 [.int .i64 X.a.re, .int .i64 X.a.im, .int .i64 X.a.den, .int .i64 X.b.re, .int .i64 X.b.im, .int .i64 X.b.den, .int .i64 X.c.re, .int .i64 X.c.im, .int .i64 X.c.den, .int .i64 X.d.re, .int .i64 X.d.im, .int .i64 X.d.den]) := rangeAt_below (rangeAt_new _ _ _) hb (by first | omega | (simp; done) | (simp <;> omega))
      have hz7 := hb.size
      (try simp at hz7)
      clear hb
      have nA0 : w1.heap.size < w7.heap.size := by omega
      have nB0 : ¬ w1.heap.size = w7.heap.size := by omega
      have nC0 : ¬ w7.heap.size = w1.heap.size := by omega
      have nA1 : w4.heap.size < w7.heap.size := by omega
      have nB1 : ¬ w4.heap.size = w7.heap.size := by omega
      have nC1 : ¬ w7.heap.size = w4.heap.size := by omega
      have nA2 : w5.heap.size < w7.heap.size := by omega
      have nB2 : ¬ w5.heap.size = w7.heap.size := by omega
      have nC2 : ¬ w7.heap.size = w5.heap.size := by omega
      have nA3 : w6.heap.size < w7.heap.size := by omega
      have nB3 : ¬ w6.heap.size = w7.heap.size := by omega
      have nC3 : ¬ w7.heap.size = w6.heap.size := by omega
      go_wp2_with fail
      go_ret
      exact ⟨rfl, (by (repeat' first | (with_reducible exact HB.out) | with_reducible refine setCells_below _ _ _ ?_ (by first | omega | (simp <;> omega)) | with_reducible refine Below.setCell ?_ (by show _ ≤ _; first | omega | (simp <;> omega) | simp) _ | with_reducible refine Below.alloc ?_ (by first | omega | (simp <;> omega)) _ | with_reducible apply Below.drew))⟩

set_option maxRecDepth 100000 in
theorem door_FnLossless (os : Os) (args : Array Value) : laidMetH Tryd.prog Rows.fnLosslessRow.laid ((World.doorLaid Tryd.prog 43 os).forCall (fun _ _ => 0) ⟨#[], args, []⟩).memory :=
  laidMetH_of_parts3 (fuel := 8) (laidMet_of_run' 8 (by kernel_rfl) (by kernel_rfl)) (by kernel_rfl) (by kernel_rfl)
set_option maxRecDepth 100000 in
theorem lifted_FnLossless (os : Os) (started : os.Started) (H : Type) (enc : TypeId × Value → H) :
    ReturnsInHanded {} Tryd.checked os 7 .any (fun w args => (Rows.fnLosslessSpec.pre enc Tryd.prog Tryd.f7 [] false w args ∧ laidMetH Tryd.prog Rows.fnLosslessRow.laid w) ∧ sizedMet enc Tryd.prog Tryd.f7 (OpenSpec.ofChange Rows.fnLosslessSpec) false w args) (Rows.fnLosslessSpec.post enc Tryd.prog Tryd.f7 false true false false) := by
  refine returnsInHanded_of_change_and (C := Tryd.checked) (X := fun w _ => laidMetH Tryd.prog Rows.fnLosslessRow.laid w) (fun _ _ _ hh h => h.of_heap hh) Tryd.own started (by kernel_rfl) Tryd.func7
    (ChangeSpec.witness_shaped (enc := enc) (C := Tryd.checked) (os := os) (X := fun w _ => laidMetH Tryd.prog Rows.fnLosslessRow.laid w) false (World.doorLaid Tryd.prog 43 os) #[.slice none 0 0] 8 rfl (World.shaped_of_RefB (by kernel_rfl) (by kernel_rfl)) (by kernel_rfl) (by kernel_rfl) (by kernel_rfl) (door_FnLossless os _)) ?_
  intro W base args ds gs before hval0 hW _ _ hL _
  have hval : ∀ (j : Nat) t v, Tryd.f7.params[j]? = some t → args[j]? = some v → Value.okWide Tryd.prog W .any base t v := hval0
  have hW' := hW
  obtain ⟨p, q, hA0, hV, rfl, hfz, hnd⟩ := hW
  have hA : DataW.TrodAll enc Tryd.prog W 0 (fun _ => true) true Tryd.f7.params.toList args.toList ds p := hA0
  rw [Tryd.params7] at hA hval
  obtain ⟨v0, d0, rfl, rfl, h0⟩ := trodAll_one hA
  obtain ⟨g0, rfl⟩ := len1 (vars_len hV)
  have hG_same := gat_same hL (by decide) (by simp [Rows.fnLosslessRow, Rows.laid_loop_example_polarisedlight_impl_same])
  have h0k := h0
  obtain ⟨fuel, hf⟩ := h0
  clear hA0 hval0
  have hlt : ∀ x ∈ p, x.block < W.heap.size := fun x hx => by simpa using hW'.lt x (List.mem_append_left _ hx)
  obtain ⟨a0, len, cap, rfl⟩ := okWide_slice Tryd.underlying22 (hval 0 22 v0 rfl rfl)
  obtain ⟨hcap, HC⟩ := open_code hf hlt
  refine (walk_FnLossless a0 len cap W hcap HC hG_same).mono fun e W' ⟨he, hb⟩ => ?_
  subst he
  refine ⟨_, rfl, _, _, _, [], p, q, hW', trodAll_mk1 (shut_bool Tryd.underlying4 _), trodAll_mk1 (Below.trod Tryd.laidOut (by kernel_rfl) (of_decide_eq_true (by kernel_rfl)) h0k hb (fun x hx => hlt x (by simp [hx]))), Below.trodVars Tryd.laidOut hb (by kernel_rfl) hV, hb.frame _, fun h => by cases h⟩
theorem said_FnLossless : Rows.FnLosslessSaid :=
  OpenClaim.holds_of_wide 7 Tryd.f7 rfl rfl rfl rfl rfl rfl rfl ⟨rfl, rfl, rfl, rfl, rfl⟩ rfl rfl rfl rfl rfl (by kernel_rfl) Tryd.func7 (by kernel_rfl)
    (of_decide_eq_true (by kernel_rfl)) (by unfold Func.isWrapper; first | (rw [if_pos (by decide +kernel)]; kernel_rfl) | (rw [if_neg (by decide +kernel)]; exact ⟨rfl, rfl⟩))
    (fun os started H enc _ => lifted_FnLossless os started H enc)
set_option maxRecDepth 100000 in
/-- THE STATEMENT: THE CARD. -/
theorem holds_FnLossless : Rows.FnLosslessCardSaid :=
  Claim7.holds_tied_plain_at .later [] [.data] true (true, "3d2c88d957d06082902c58164e94ed0f70d9b698276363a5f755186a5af957fe") false
    said_FnLossless (fun _ h => by cases h) (by kernel_rfl) (fun _ h => by cases h) fnLossless_row_tie rfl ⟨rfl, rfl⟩ (by kernel_rfl) rfl
    (fun f fn hf hfn => by
      obtain rfl : f = 7 := Option.some.inj ((show Tryd.prog.funcNamed "loop.example/polarisedlight/laws.FnLossless" = some 7 by kernel_rfl).symm.trans hf) |>.symm
      obtain rfl : fn = Tryd.f7 := (Option.some.inj (Tryd.func7.symm.trans hfn)).symm
      exact ⟨by kernel_rfl, fun j t ht => by
        rw [Tryd.params7] at ht
        have hm : t ∈ [22] := by simpa using Array.mem_of_getElem? ht
        have hall : ([22].all fun u => !Tryd.prog.wantsStandIn u) = true := by kernel_rfl
        exact (show Tryd.prog.wantsStandIn t = false by simpa using List.all_eq_true.1 hall t hm)⟩)
    (by kernel_rfl)
end Go.Proofs.YtcpdapfcbnhgaaaDoor
