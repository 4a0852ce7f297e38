/- Rotators are undone by the opposite ones. The row lists package-level variables, and the card ties them to the text of the program: the pruned copy of the project that the seat holds. -/
import Derived.Test.YtcpdapfcbnhgaaaDoorDW3
import Derived.Test.YtcpdapfcbnhgaaaDoorPV
import Derived.Test.YtcpdapfcbnhgaaaDoorTie
import Derived.Test.YtcpdapfcbnhgaaaDoorCards
import Derived.SevenTiedAt
import Derived.Test.YtcpdapfcbnhgaaaDoorQL
import Derived.Test.YtcpdapfcbnhgaaaDoorNC
import Derived.Test.YtcpdapfcbnhgaaaDoorP
import Derived.Test.YtcpdapfcbnhgaaaDoorZ
import Derived.Test.YtcpdapfcbnhgaaaDoorEQ2
namespace Go.Proofs.YtcpdapfcbnhgaaaDoor
open Go.ChangeShapes Go.WideShapes Go.ChangeAt Go.RowKit Pol

set_option maxRecDepth 100000 in
set_option maxHeartbeats 40000000 in
theorem walk_FnRotator (a0 : Option Addr) (len cap : Nat) (w : World) (hcap : len ≤ cap) (HC : Code w.heap.size w a0 len) (hg_same : Gat w 0 mSame.get 4) :
    Calls Tryd.prog 4 #[.slice a0 len cap] w fun e w' => e = .returned (.bool true) ∧ Below w.heap.size w w' := by
  by_cases hbig : 1048576 < len
  · have h1 : (1048576 : Int) < (len : Int) := by omega
    go_enter Tryd.func4, Tryd.ntmps4
    go_wp2
    go_ret
    exact ⟨rfl, Below.refl _ _⟩
  have h1 : ¬ (1048576 : Int) < (len : Int) := by omega
  have HG_same := Lib.hid hg_same; clear hg_same
  go_enter Tryd.func4, Tryd.ntmps4
  go_wp2_with fail
  refine (DrawMatRotator_any a0 len cap _ hcap HC).mono ?_
  rintro e w1 ⟨p, q, rfl, hb⟩
  have HB := Lib.hid (show Below w.heap.size w w1 from hb)
  have hz1 := hb.size
  (try simp at hz1)
  clear hb
  cases hd : dirB p q
  · skip
    have HG : Hid (gRot p q = (m4z, false)) := rot_n hd
    go_wp2_with fail
    refine (irot_any p q _).mono ?_
    rintro e w2 ho
    rw [HG.out] at ho
    obtain ⟨rfl, hb⟩ : e = .returned (.tuple #[.agg #[.int .i64 m4z.a.re, .int .i64 m4z.a.im, .int .i64 m4z.a.den, .int .i64 m4z.b.re, .int .i64 m4z.b.im, .int .i64 m4z.b.den, .int .i64 m4z.c.re, .int .i64 m4z.c.im, .int .i64 m4z.c.den, .int .i64 m4z.d.re, .int .i64 m4z.d.im, .int .i64 m4z.d.den], .bool false]) ∧ Below _ _ _ := ho.fn
    clear ho
    have HB := Lib.hid (show Below w.heap.size w w2 from HB.out.trans ((show Below _ _ _ from (Below.refl _ _)).trans (hb.mono (by first | omega | (simp <;> omega)))))
    have hz2 := hb.size
    (try simp at hz2)
    clear hb
    go_wp2_with fail
    refine (srot_any p q _).mono ?_
    rintro e w3 ho
    rw [HG.out] at ho
    obtain ⟨rfl, hb⟩ : e = .returned (.tuple #[.agg #[.int .i64 m4z.a.re, .int .i64 m4z.a.im, .int .i64 m4z.a.den, .int .i64 m4z.b.re, .int .i64 m4z.b.im, .int .i64 m4z.b.den, .int .i64 m4z.c.re, .int .i64 m4z.c.im, .int .i64 m4z.c.den, .int .i64 m4z.d.re, .int .i64 m4z.d.im, .int .i64 m4z.d.den], .bool false]) ∧ Below _ _ _ := ho.fn
    clear ho
    have HB := Lib.hid (show Below w.heap.size w w3 from HB.out.trans ((show Below _ _ _ from ((Below.refl _ _).alloc (by omega) _)).trans (hb.mono (by first | omega | (simp <;> omega)))))
    have Ho : Hid (w3.rangeAt w2.heap.size 0 [.int .i64 m4z.a.re, .int .i64 m4z.a.im, .int .i64 m4z.a.den, .int .i64 m4z.b.re, .int .i64 m4z.b.im, .int .i64 m4z.b.den, .int .i64 m4z.c.re, .int .i64 m4z.c.im, .int .i64 m4z.c.den, .int .i64 m4z.d.re, .int .i64 m4z.d.im, .int .i64 m4z.d.den]) := rangeAt_below (rangeAt_new _ _ _) hb (by first | omega | (simp; done) | (simp <;> omega))
    have hz3 := hb.size
    (try simp at hz3)
    clear hb
    have nA0 : w2.heap.size < w3.heap.size := by omega
    have nB0 : ¬ w2.heap.size = w3.heap.size := by omega
    have nC0 : ¬ w3.heap.size = w2.heap.size := by omega
    have hEq1 : ∀ w, (Op.equalIn 10000 45 (.agg #[.int .i64 m4z.a.re, .int .i64 m4z.a.im, .int .i64 m4z.a.den, .int .i64 m4z.b.re, .int .i64 m4z.b.im, .int .i64 m4z.b.den, .int .i64 m4z.c.re, .int .i64 m4z.c.im, .int .i64 m4z.c.den, .int .i64 m4z.d.re, .int .i64 m4z.d.im, .int .i64 m4z.d.den]) (.agg #[.int .i64 m4z.a.re, .int .i64 m4z.a.im, .int .i64 m4z.a.den, .int .i64 m4z.b.re, .int .i64 m4z.b.im, .int .i64 m4z.b.den, .int .i64 m4z.c.re, .int .i64 m4z.c.im, .int .i64 m4z.c.den, .int .i64 m4z.d.re, .int .i64 m4z.d.im, .int .i64 m4z.d.den])).run Tryd.prog w = .ok true w := eqMat_run m4z
    have zo_0 : w3.cell? ⟨w2.heap.size, 0, none⟩ = some (.int .i64 m4z.a.re) := by have := Ho.out 0 _ rfl; rwa [Nat.zero_add] at this
    have zo_1 : w3.cell? ⟨w2.heap.size, 1, none⟩ = some (.int .i64 m4z.a.im) := by have := Ho.out 1 _ rfl; rwa [Nat.zero_add] at this
    have zo_2 : w3.cell? ⟨w2.heap.size, 2, none⟩ = some (.int .i64 m4z.a.den) := by have := Ho.out 2 _ rfl; rwa [Nat.zero_add] at this
    have zo_3 : w3.cell? ⟨w2.heap.size, 3, none⟩ = some (.int .i64 m4z.b.re) := by have := Ho.out 3 _ rfl; rwa [Nat.zero_add] at this
    have zo_4 : w3.cell? ⟨w2.heap.size, 4, none⟩ = some (.int .i64 m4z.b.im) := by have := Ho.out 4 _ rfl; rwa [Nat.zero_add] at this
    have zo_5 : w3.cell? ⟨w2.heap.size, 5, none⟩ = some (.int .i64 m4z.b.den) := by have := Ho.out 5 _ rfl; rwa [Nat.zero_add] at this
    have zo_6 : w3.cell? ⟨w2.heap.size, 6, none⟩ = some (.int .i64 m4z.c.re) := by have := Ho.out 6 _ rfl; rwa [Nat.zero_add] at this
    have zo_7 : w3.cell? ⟨w2.heap.size, 7, none⟩ = some (.int .i64 m4z.c.im) := by have := Ho.out 7 _ rfl; rwa [Nat.zero_add] at this
    have zo_8 : w3.cell? ⟨w2.heap.size, 8, none⟩ = some (.int .i64 m4z.c.den) := by have := Ho.out 8 _ rfl; rwa [Nat.zero_add] at this
    have zo_9 : w3.cell? ⟨w2.heap.size, 9, none⟩ = some (.int .i64 m4z.d.re) := by have := Ho.out 9 _ rfl; rwa [Nat.zero_add] at this
    have zo_10 : w3.cell? ⟨w2.heap.size, 10, none⟩ = some (.int .i64 m4z.d.im) := by have := Ho.out 10 _ rfl; rwa [Nat.zero_add] at this
    have zo_11 : w3.cell? ⟨w2.heap.size, 11, none⟩ = some (.int .i64 m4z.d.den) := by have := Ho.out 11 _ rfl; rwa [Nat.zero_add] at this
    go_wp2_with fail
    go_ret
    exact ⟨rfl, (by (repeat' first | (with_reducible exact HB.out) | with_reducible refine setCells_below _ _ _ ?_ (by first | omega | (simp <;> omega)) | with_reducible refine Below.setCell ?_ (by show _ ≤ _; first | omega | (simp <;> omega) | simp) _ | with_reducible refine Below.alloc ?_ (by first | omega | (simp <;> omega)) _ | with_reducible apply Below.drew))⟩
  · skip
    obtain ⟨m, b, l1, l2, l3, l4, l5⟩ := law_rot hd
    obtain ⟨⟨b1, b2⟩, ⟨b3, b4⟩, -⟩ := dir_bd hd
    have HG := Lib.hid l1
    have HK := Lib.hid l2
    have HM := Lib.hid l3
    have HD := Lib.hid l4
    have HLm := Lib.hid l5
    have HO : Hid (gRot 1 0 = (mOne, true)) := rot_one
    clear l1 l2 l3 l4 l5 hd
    obtain ⟨I, hI⟩ : ∃ I, I = mOne := ⟨_, rfl⟩
    rw [← hI] at HO HM
    clear hI
    go_wp2_with fail
    refine (irot_any p q _).mono ?_
    rintro e w2 ho
    rw [HG.out] at ho
    obtain ⟨rfl, hb⟩ : e = .returned (.tuple #[.agg #[.int .i64 m.a.re, .int .i64 m.a.im, .int .i64 m.a.den, .int .i64 m.b.re, .int .i64 m.b.im, .int .i64 m.b.den, .int .i64 m.c.re, .int .i64 m.c.im, .int .i64 m.c.den, .int .i64 m.d.re, .int .i64 m.d.im, .int .i64 m.d.den], .bool true]) ∧ Below _ _ _ := ho.fn
    clear ho
    have HB := Lib.hid (show Below w.heap.size w w2 from HB.out.trans ((show Below _ _ _ from (Below.refl _ _)).trans (hb.mono (by first | omega | (simp <;> omega)))))
    have hz2 := hb.size
    (try simp at hz2)
    clear hb
    go_wp2_with fail
    refine (srot_any p q _).mono ?_
    rintro e w3 ho
    rw [HG.out] at ho
    obtain ⟨rfl, hb⟩ : e = .returned (.tuple #[.agg #[.int .i64 m.a.re, .int .i64 m.a.im, .int .i64 m.a.den, .int .i64 m.b.re, .int .i64 m.b.im, .int .i64 m.b.den, .int .i64 m.c.re, .int .i64 m.c.im, .int .i64 m.c.den, .int .i64 m.d.re, .int .i64 m.d.im, .int .i64 m.d.den], .bool true]) ∧ Below _ _ _ := ho.fn
    clear ho
    have HB := Lib.hid (show Below w.heap.size w w3 from HB.out.trans ((show Below _ _ _ from ((Below.refl _ _).alloc (by omega) _)).trans (hb.mono (by first | omega | (simp <;> omega)))))
    have Ho : Hid (w3.rangeAt w2.heap.size 0 [.int .i64 m.a.re, .int .i64 m.a.im, .int .i64 m.a.den, .int .i64 m.b.re, .int .i64 m.b.im, .int .i64 m.b.den, .int .i64 m.c.re, .int .i64 m.c.im, .int .i64 m.c.den, .int .i64 m.d.re, .int .i64 m.d.im, .int .i64 m.d.den]) := rangeAt_below (rangeAt_new _ _ _) hb (by first | omega | (simp; done) | (simp <;> omega))
    have hz3 := hb.size
    (try simp at hz3)
    clear hb
    have nA0 : w2.heap.size < w3.heap.size := by omega
    have nB0 : ¬ w2.heap.size = w3.heap.size := by omega
    have nC0 : ¬ w3.heap.size = w2.heap.size := by omega
    have hEq1 : ∀ w, (Op.equalIn 10000 45 (.agg #[.int .i64 m.a.re, .int .i64 m.a.im, .int .i64 m.a.den, .int .i64 m.b.re, .int .i64 m.b.im, .int .i64 m.b.den, .int .i64 m.c.re, .int .i64 m.c.im, .int .i64 m.c.den, .int .i64 m.d.re, .int .i64 m.d.im, .int .i64 m.d.den]) (.agg #[.int .i64 m.a.re, .int .i64 m.a.im, .int .i64 m.a.den, .int .i64 m.b.re, .int .i64 m.b.im, .int .i64 m.b.den, .int .i64 m.c.re, .int .i64 m.c.im, .int .i64 m.c.den, .int .i64 m.d.re, .int .i64 m.d.im, .int .i64 m.d.den])).run Tryd.prog w = .ok true w := eqMat_run m
    have zo_0 : w3.cell? ⟨w2.heap.size, 0, none⟩ = some (.int .i64 m.a.re) := by have := Ho.out 0 _ rfl; rwa [Nat.zero_add] at this
    have zo_1 : w3.cell? ⟨w2.heap.size, 1, none⟩ = some (.int .i64 m.a.im) := by have := Ho.out 1 _ rfl; rwa [Nat.zero_add] at this
    have zo_2 : w3.cell? ⟨w2.heap.size, 2, none⟩ = some (.int .i64 m.a.den) := by have := Ho.out 2 _ rfl; rwa [Nat.zero_add] at this
    have zo_3 : w3.cell? ⟨w2.heap.size, 3, none⟩ = some (.int .i64 m.b.re) := by have := Ho.out 3 _ rfl; rwa [Nat.zero_add] at this
    have zo_4 : w3.cell? ⟨w2.heap.size, 4, none⟩ = some (.int .i64 m.b.im) := by have := Ho.out 4 _ rfl; rwa [Nat.zero_add] at this
    have zo_5 : w3.cell? ⟨w2.heap.size, 5, none⟩ = some (.int .i64 m.b.den) := by have := Ho.out 5 _ rfl; rwa [Nat.zero_add] at this
    have zo_6 : w3.cell? ⟨w2.heap.size, 6, none⟩ = some (.int .i64 m.c.re) := by have := Ho.out 6 _ rfl; rwa [Nat.zero_add] at this
    have zo_7 : w3.cell? ⟨w2.heap.size, 7, none⟩ = some (.int .i64 m.c.im) := by have := Ho.out 7 _ rfl; rwa [Nat.zero_add] at this
    have zo_8 : w3.cell? ⟨w2.heap.size, 8, none⟩ = some (.int .i64 m.c.den) := by have := Ho.out 8 _ rfl; rwa [Nat.zero_add] at this
    have zo_9 : w3.cell? ⟨w2.heap.size, 9, none⟩ = some (.int .i64 m.d.re) := by have := Ho.out 9 _ rfl; rwa [Nat.zero_add] at this
    have zo_10 : w3.cell? ⟨w2.heap.size, 10, none⟩ = some (.int .i64 m.d.im) := by have := Ho.out 10 _ rfl; rwa [Nat.zero_add] at this
    have zo_11 : w3.cell? ⟨w2.heap.size, 11, none⟩ = some (.int .i64 m.d.den) := by have := Ho.out 11 _ rfl; rwa [Nat.zero_add] at this
    go_wp2_with fail
    refine (irot_any p (-q) _).mono ?_
    rintro e w4 ho
    rw [HK.out] at ho
    obtain ⟨rfl, hb⟩ : e = .returned (.tuple #[.agg #[.int .i64 b.a.re, .int .i64 b.a.im, .int .i64 b.a.den, .int .i64 b.b.re, .int .i64 b.b.im, .int .i64 b.b.den, .int .i64 b.c.re, .int .i64 b.c.im, .int .i64 b.c.den, .int .i64 b.d.re, .int .i64 b.d.im, .int .i64 b.d.den], .bool true]) ∧ Below _ _ _ := ho.fn
    clear ho
    have HB := Lib.hid (show Below w.heap.size w w4 from HB.out.trans ((show Below _ _ _ from ((Below.refl _ _).alloc (by omega) _)).trans (hb.mono (by first | omega | (simp <;> omega)))))
    have Ho : Hid (w4.rangeAt (w2.heap.size) 0 [.int .i64 m.a.re, .int .i64 m.a.im, .int .i64 m.a.den, .int .i64 m.b.re, .int .i64 m.b.im, .int .i64 m.b.den, .int .i64 m.c.re, .int .i64 m.c.im, .int .i64 m.c.den, .int .i64 m.d.re, .int .i64 m.d.im, .int .i64 m.d.den]) := rangeAt_below (World.rangeAt_alloc Ho.out _) hb (by first | omega | (simp; done) | (simp <;> omega))
    have Hq : Hid (w4.rangeAt w3.heap.size 0 [.int .i64 m.a.re, .int .i64 m.a.im, .int .i64 m.a.den, .int .i64 m.b.re, .int .i64 m.b.im, .int .i64 m.b.den, .int .i64 m.c.re, .int .i64 m.c.im, .int .i64 m.c.den, .int .i64 m.d.re, .int .i64 m.d.im, .int .i64 m.d.den]) := rangeAt_below (rangeAt_new _ _ _) hb (by first | omega | (simp; done) | (simp <;> omega))
    have hz4 := hb.size
    (try simp at hz4)
    clear hb
    have nA0 : w2.heap.size < w4.heap.size := by omega
    have nB0 : ¬ w2.heap.size = w4.heap.size := by omega
    have nC0 : ¬ w4.heap.size = w2.heap.size := by omega
    have nA1 : w3.heap.size < w4.heap.size := by omega
    have nB1 : ¬ w3.heap.size = w4.heap.size := by omega
    have nC1 : ¬ w4.heap.size = w3.heap.size := by omega
    go_wp2_with fail
    refine (irot_any 1 0 _).mono ?_
    rintro e w5 ho
    rw [HO.out] at ho
    obtain ⟨rfl, hb⟩ : e = .returned (.tuple #[.agg #[.int .i64 I.a.re, .int .i64 I.a.im, .int .i64 I.a.den, .int .i64 I.b.re, .int .i64 I.b.im, .int .i64 I.b.den, .int .i64 I.c.re, .int .i64 I.c.im, .int .i64 I.c.den, .int .i64 I.d.re, .int .i64 I.d.im, .int .i64 I.d.den], .bool true]) ∧ Below _ _ _ := ho.fn
    clear ho
    have HB := Lib.hid (show Below w.heap.size w w5 from HB.out.trans ((show Below _ _ _ from ((Below.refl _ _).alloc (by omega) _)).trans (hb.mono (by first | omega | (simp <;> omega)))))
    have Ho : Hid (w5.rangeAt (w2.heap.size) 0 [.int .i64 m.a.re, .int .i64 m.a.im, .int .i64 m.a.den, .int .i64 m.b.re, .int .i64 m.b.im, .int .i64 m.b.den, .int .i64 m.c.re, .int .i64 m.c.im, .int .i64 m.c.den, .int .i64 m.d.re, .int .i64 m.d.im, .int .i64 m.d.den]) := rangeAt_below (World.rangeAt_alloc Ho.out _) hb (by first | omega | (simp; done) | (simp <;> omega))
    have Hq : Hid (w5.rangeAt (w3.heap.size) 0 [.int .i64 m.a.re, .int .i64 m.a.im, .int .i64 m.a.den, .int .i64 m.b.re, .int .i64 m.b.im, .int .i64 m.b.den, .int .i64 m.c.re, .int .i64 m.c.im, .int .i64 m.c.den, .int .i64 m.d.re, .int .i64 m.d.im, .int .i64 m.d.den]) := rangeAt_below (World.rangeAt_alloc Hq.out _) hb (by first | omega | (simp; done) | (simp <;> omega))
    have Hbk : Hid (w5.rangeAt w4.heap.size 0 [.int .i64 b.a.re, .int .i64 b.a.im, .int .i64 b.a.den, .int .i64 b.b.re, .int .i64 b.b.im, .int .i64 b.b.den, .int .i64 b.c.re, .int .i64 b.c.im, .int .i64 b.c.den, .int .i64 b.d.re, .int .i64 b.d.im, .int .i64 b.d.den]) := rangeAt_below (rangeAt_new _ _ _) hb (by first | omega | (simp; done) | (simp <;> omega))
    have hz5 := hb.size
    (try simp at hz5)
    clear hb
    have nA0 : w2.heap.size < w5.heap.size := by omega
    have nB0 : ¬ w2.heap.size = w5.heap.size := by omega
    have nC0 : ¬ w5.heap.size = w2.heap.size := by omega
    have nA1 : w3.heap.size < w5.heap.size := by omega
    have nB1 : ¬ w3.heap.size = w5.heap.size := by omega
    have nC1 : ¬ w5.heap.size = w3.heap.size := by omega
    have nA2 : w4.heap.size < w5.heap.size := by omega
    have nB2 : ¬ w4.heap.size = w5.heap.size := by omega
    have nC2 : ¬ w5.heap.size = w4.heap.size := by omega
    go_wp2_with (first | ((with_reducible refine wpList_load_mid ?kl131 45 ?kl13x ?kl132 (w2.heap.size) 0 ?kl133 [.int .i64 m.a.re, .int .i64 m.a.im, .int .i64 m.a.den, .int .i64 m.b.re, .int .i64 m.b.im, .int .i64 m.b.den, .int .i64 m.c.re, .int .i64 m.c.im, .int .i64 m.c.den, .int .i64 m.d.re, .int .i64 m.d.im, .int .i64 m.d.den] ?kl13d ?kl134 ?kl135 ?kl136 ?kl137 ?kl138); (case kl132 => rfl); (case kl131 => rfl); (case kl133 => rfl); (case kl134 => (exact (World.rangeAt_alloc Ho.out _))); (case kl135 => exact Tryd.underlying45); (case kl136 => rfl); (case kl137 => kernel_rfl)) | ((with_reducible refine wpList_load_mid ?kl141 45 ?kl14x ?kl142 (w4.heap.size) 0 ?kl143 [.int .i64 b.a.re, .int .i64 b.a.im, .int .i64 b.a.den, .int .i64 b.b.re, .int .i64 b.b.im, .int .i64 b.b.den, .int .i64 b.c.re, .int .i64 b.c.im, .int .i64 b.c.den, .int .i64 b.d.re, .int .i64 b.d.im, .int .i64 b.d.den] ?kl14d ?kl144 ?kl145 ?kl146 ?kl147 ?kl148); (case kl142 => rfl); (case kl141 => rfl); (case kl143 => rfl); (case kl144 => (exact (World.rangeAt_alloc Hbk.out _))); (case kl145 => exact Tryd.underlying45); (case kl146 => rfl); (case kl147 => kernel_rfl)))
    refine (imtm_m m b _).mono ?_
    rintro e w6 ho
    rw [HM.out] at ho
    obtain ⟨rfl, hb⟩ : e = .returned (.tuple #[.agg #[.int .i64 I.a.re, .int .i64 I.a.im, .int .i64 I.a.den, .int .i64 I.b.re, .int .i64 I.b.im, .int .i64 I.b.den, .int .i64 I.c.re, .int .i64 I.c.im, .int .i64 I.c.den, .int .i64 I.d.re, .int .i64 I.d.im, .int .i64 I.d.den], .bool true]) ∧ Below _ _ _ := ho.fn
    clear ho
    have HB := Lib.hid (show Below w.heap.size w w6 from HB.out.trans ((show Below _ _ _ from ((Below.refl _ _).alloc (by omega) _)).trans (hb.mono (by first | omega | (simp <;> omega)))))
    have Ho : Hid (w6.rangeAt (w2.heap.size) 0 [.int .i64 m.a.re, .int .i64 m.a.im, .int .i64 m.a.den, .int .i64 m.b.re, .int .i64 m.b.im, .int .i64 m.b.den, .int .i64 m.c.re, .int .i64 m.c.im, .int .i64 m.c.den, .int .i64 m.d.re, .int .i64 m.d.im, .int .i64 m.d.den]) := rangeAt_below (World.rangeAt_alloc Ho.out _) hb (by first | omega | (simp; done) | (simp <;> omega))
    have Hq : Hid (w6.rangeAt (w3.heap.size) 0 [.int .i64 m.a.re, .int .i64 m.a.im, .int .i64 m.a.den, .int .i64 m.b.re, .int .i64 m.b.im, .int .i64 m.b.den, .int .i64 m.c.re, .int .i64 m.c.im, .int .i64 m.c.den, .int .i64 m.d.re, .int .i64 m.d.im, .int .i64 m.d.den]) := rangeAt_below (World.rangeAt_alloc Hq.out _) hb (by first | omega | (simp; done) | (simp <;> omega))
    have Hbk : Hid (w6.rangeAt (w4.heap.size) 0 [.int .i64 b.a.re, .int .i64 b.a.im, .int .i64 b.a.den, .int .i64 b.b.re, .int .i64 b.b.im, .int .i64 b.b.den, .int .i64 b.c.re, .int .i64 b.c.im, .int .i64 b.c.den, .int .i64 b.d.re, .int .i64 b.d.im, .int .i64 b.d.den]) := rangeAt_below (World.rangeAt_alloc Hbk.out _) hb (by first | omega | (simp; done) | (simp <;> omega))
    have Hone : Hid (w6.rangeAt w5.heap.size 0 [.int .i64 I.a.re, .int .i64 I.a.im, .int .i64 I.a.den, .int .i64 I.b.re, .int .i64 I.b.im, .int .i64 I.b.den, .int .i64 I.c.re, .int .i64 I.c.im, .int .i64 I.c.den, .int .i64 I.d.re, .int .i64 I.d.im, .int .i64 I.d.den]) := rangeAt_below (rangeAt_new _ _ _) hb (by first | omega | (simp; done) | (simp <;> omega))
    have hz6 := hb.size
    (try simp at hz6)
    clear hb
    have nA0 : w2.heap.size < w6.heap.size := by omega
    have nB0 : ¬ w2.heap.size = w6.heap.size := by omega
    have nC0 : ¬ w6.heap.size = w2.heap.size := by omega
    have nA1 : w3.heap.size < w6.heap.size := by omega
    have nB1 : ¬ w3.heap.size = w6.heap.size := by omega
    have nC1 : ¬ w6.heap.size = w3.heap.size := by omega
    have nA2 : w4.heap.size < w6.heap.size := by omega
    have nB2 : ¬ w4.heap.size = w6.heap.size := by omega
    have nC2 : ¬ w6.heap.size = w4.heap.size := by omega
    have nA3 : w5.heap.size < w6.heap.size := by omega
    have nB3 : ¬ w5.heap.size = w6.heap.size := by omega
    have nC3 : ¬ w6.heap.size = w5.heap.size := by omega
    go_wp2_with (first | ((with_reducible refine wpList_load_mid ?kl151 45 ?kl15x ?kl152 (w2.heap.size) 0 ?kl153 [.int .i64 m.a.re, .int .i64 m.a.im, .int .i64 m.a.den, .int .i64 m.b.re, .int .i64 m.b.im, .int .i64 m.b.den, .int .i64 m.c.re, .int .i64 m.c.im, .int .i64 m.c.den, .int .i64 m.d.re, .int .i64 m.d.im, .int .i64 m.d.den] ?kl15d ?kl154 ?kl155 ?kl156 ?kl157 ?kl158); (case kl152 => rfl); (case kl151 => rfl); (case kl153 => rfl); (case kl154 => (exact (World.rangeAt_alloc Ho.out _))); (case kl155 => exact Tryd.underlying45); (case kl156 => rfl); (case kl157 => kernel_rfl)))
    refine (imatdet_any m _).mono ?_
    rintro e w7 ho
    rw [HD.out] at ho
    obtain ⟨rfl, hb⟩ : e = .returned (.tuple #[.agg #[.int .i64 1, .int .i64 0, .int .i64 1], .bool true]) ∧ Below _ _ _ := ho.fn
    clear ho
    have HB := Lib.hid (show Below w.heap.size w w7 from HB.out.trans ((show Below _ _ _ from ((Below.refl _ _).alloc (by omega) _)).trans (hb.mono (by first | omega | (simp <;> omega)))))
    have Ho : Hid (w7.rangeAt (w2.heap.size) 0 [.int .i64 m.a.re, .int .i64 m.a.im, .int .i64 m.a.den, .int .i64 m.b.re, .int .i64 m.b.im, .int .i64 m.b.den, .int .i64 m.c.re, .int .i64 m.c.im, .int .i64 m.c.den, .int .i64 m.d.re, .int .i64 m.d.im, .int .i64 m.d.den]) := rangeAt_below (World.rangeAt_alloc Ho.out _) hb (by first | omega | (simp; done) | (simp <;> omega))
    have Hq : Hid (w7.rangeAt (w3.heap.size) 0 [.int .i64 m.a.re, .int .i64 m.a.im, .int .i64 m.a.den, .int .i64 m.b.re, .int .i64 m.b.im, .int .i64 m.b.den, .int .i64 m.c.re, .int .i64 m.c.im, .int .i64 m.c.den, .int .i64 m.d.re, .int .i64 m.d.im, .int .i64 m.d.den]) := rangeAt_below (World.rangeAt_alloc Hq.out _) hb (by first | omega | (simp; done) | (simp <;> omega))
    have Hbk : Hid (w7.rangeAt (w4.heap.size) 0 [.int .i64 b.a.re, .int .i64 b.a.im, .int .i64 b.a.den, .int .i64 b.b.re, .int .i64 b.b.im, .int .i64 b.b.den, .int .i64 b.c.re, .int .i64 b.c.im, .int .i64 b.c.den, .int .i64 b.d.re, .int .i64 b.d.im, .int .i64 b.d.den]) := rangeAt_below (World.rangeAt_alloc Hbk.out _) hb (by first | omega | (simp; done) | (simp <;> omega))
    have Hone : Hid (w7.rangeAt (w5.heap.size) 0 [.int .i64 I.a.re, .int .i64 I.a.im, .int .i64 I.a.den, .int .i64 I.b.re, .int .i64 I.b.im, .int .i64 I.b.den, .int .i64 I.c.re, .int .i64 I.c.im, .int .i64 I.c.den, .int .i64 I.d.re, .int .i64 I.d.im, .int .i64 I.d.den]) := rangeAt_below (World.rangeAt_alloc Hone.out _) hb (by first | omega | (simp; done) | (simp <;> omega))
    have Hbx : Hid (w7.rangeAt w6.heap.size 0 [.int .i64 I.a.re, .int .i64 I.a.im, .int .i64 I.a.den, .int .i64 I.b.re, .int .i64 I.b.im, .int .i64 I.b.den, .int .i64 I.c.re, .int .i64 I.c.im, .int .i64 I.c.den, .int .i64 I.d.re, .int .i64 I.d.im, .int .i64 I.d.den]) := rangeAt_below (rangeAt_new _ _ _) hb (by first | omega | (simp; done) | (simp <;> omega))
    have hz7 := hb.size
    (try simp at hz7)
    clear hb
    have nA0 : w2.heap.size < w7.heap.size := by omega
    have nB0 : ¬ w2.heap.size = w7.heap.size := by omega
    have nC0 : ¬ w7.heap.size = w2.heap.size := by omega
    have nA1 : w3.heap.size < w7.heap.size := by omega
    have nB1 : ¬ w3.heap.size = w7.heap.size := by omega
    have nC1 : ¬ w7.heap.size = w3.heap.size := by omega
    have nA2 : w4.heap.size < w7.heap.size := by omega
    have nB2 : ¬ w4.heap.size = w7.heap.size := by omega
    have nC2 : ¬ w7.heap.size = w4.heap.size := by omega
    have nA3 : w5.heap.size < w7.heap.size := by omega
    have nB3 : ¬ w5.heap.size = w7.heap.size := by omega
    have nC3 : ¬ w7.heap.size = w5.heap.size := by omega
    have nA4 : w6.heap.size < w7.heap.size := by omega
    have nB4 : ¬ w6.heap.size = w7.heap.size := by omega
    have nC4 : ¬ w7.heap.size = w6.heap.size := by omega
    have hEq2 : ∀ w, (Op.equalIn 10000 45 (.agg #[.int .i64 I.a.re, .int .i64 I.a.im, .int .i64 I.a.den, .int .i64 I.b.re, .int .i64 I.b.im, .int .i64 I.b.den, .int .i64 I.c.re, .int .i64 I.c.im, .int .i64 I.c.den, .int .i64 I.d.re, .int .i64 I.d.im, .int .i64 I.d.den]) (.agg #[.int .i64 I.a.re, .int .i64 I.a.im, .int .i64 I.a.den, .int .i64 I.b.re, .int .i64 I.b.im, .int .i64 I.b.den, .int .i64 I.c.re, .int .i64 I.c.im, .int .i64 I.c.den, .int .i64 I.d.re, .int .i64 I.d.im, .int .i64 I.d.den])).run Tryd.prog w = .ok true w := eqMat_run I
    have zbx_0 : w7.cell? ⟨w6.heap.size, 0, none⟩ = some (.int .i64 I.a.re) := by have := Hbx.out 0 _ rfl; rwa [Nat.zero_add] at this
    have zbx_1 : w7.cell? ⟨w6.heap.size, 1, none⟩ = some (.int .i64 I.a.im) := by have := Hbx.out 1 _ rfl; rwa [Nat.zero_add] at this
    have zbx_2 : w7.cell? ⟨w6.heap.size, 2, none⟩ = some (.int .i64 I.a.den) := by have := Hbx.out 2 _ rfl; rwa [Nat.zero_add] at this
    have zbx_3 : w7.cell? ⟨w6.heap.size, 3, none⟩ = some (.int .i64 I.b.re) := by have := Hbx.out 3 _ rfl; rwa [Nat.zero_add] at this
    have zbx_4 : w7.cell? ⟨w6.heap.size, 4, none⟩ = some (.int .i64 I.b.im) := by have := Hbx.out 4 _ rfl; rwa [Nat.zero_add] at this
    have zbx_5 : w7.cell? ⟨w6.heap.size, 5, none⟩ = some (.int .i64 I.b.den) := by have := Hbx.out 5 _ rfl; rwa [Nat.zero_add] at this
    have zbx_6 : w7.cell? ⟨w6.heap.size, 6, none⟩ = some (.int .i64 I.c.re) := by have := Hbx.out 6 _ rfl; rwa [Nat.zero_add] at this
    have zbx_7 : w7.cell? ⟨w6.heap.size, 7, none⟩ = some (.int .i64 I.c.im) := by have := Hbx.out 7 _ rfl; rwa [Nat.zero_add] at this
    have zbx_8 : w7.cell? ⟨w6.heap.size, 8, none⟩ = some (.int .i64 I.c.den) := by have := Hbx.out 8 _ rfl; rwa [Nat.zero_add] at this
    have zbx_9 : w7.cell? ⟨w6.heap.size, 9, none⟩ = some (.int .i64 I.d.re) := by have := Hbx.out 9 _ rfl; rwa [Nat.zero_add] at this
    have zbx_10 : w7.cell? ⟨w6.heap.size, 10, none⟩ = some (.int .i64 I.d.im) := by have := Hbx.out 10 _ rfl; rwa [Nat.zero_add] at this
    have zbx_11 : w7.cell? ⟨w6.heap.size, 11, none⟩ = some (.int .i64 I.d.den) := by have := Hbx.out 11 _ rfl; rwa [Nat.zero_add] at this
    have zone_0 : w7.cell? ⟨w5.heap.size, 0, none⟩ = some (.int .i64 I.a.re) := by have := Hone.out 0 _ rfl; rwa [Nat.zero_add] at this
    have zone_1 : w7.cell? ⟨w5.heap.size, 1, none⟩ = some (.int .i64 I.a.im) := by have := Hone.out 1 _ rfl; rwa [Nat.zero_add] at this
    have zone_2 : w7.cell? ⟨w5.heap.size, 2, none⟩ = some (.int .i64 I.a.den) := by have := Hone.out 2 _ rfl; rwa [Nat.zero_add] at this
    have zone_3 : w7.cell? ⟨w5.heap.size, 3, none⟩ = some (.int .i64 I.b.re) := by have := Hone.out 3 _ rfl; rwa [Nat.zero_add] at this
    have zone_4 : w7.cell? ⟨w5.heap.size, 4, none⟩ = some (.int .i64 I.b.im) := by have := Hone.out 4 _ rfl; rwa [Nat.zero_add] at this
    have zone_5 : w7.cell? ⟨w5.heap.size, 5, none⟩ = some (.int .i64 I.b.den) := by have := Hone.out 5 _ rfl; rwa [Nat.zero_add] at this
    have zone_6 : w7.cell? ⟨w5.heap.size, 6, none⟩ = some (.int .i64 I.c.re) := by have := Hone.out 6 _ rfl; rwa [Nat.zero_add] at this
    have zone_7 : w7.cell? ⟨w5.heap.size, 7, none⟩ = some (.int .i64 I.c.im) := by have := Hone.out 7 _ rfl; rwa [Nat.zero_add] at this
    have zone_8 : w7.cell? ⟨w5.heap.size, 8, none⟩ = some (.int .i64 I.c.den) := by have := Hone.out 8 _ rfl; rwa [Nat.zero_add] at this
    have zone_9 : w7.cell? ⟨w5.heap.size, 9, none⟩ = some (.int .i64 I.d.re) := by have := Hone.out 9 _ rfl; rwa [Nat.zero_add] at this
    have zone_10 : w7.cell? ⟨w5.heap.size, 10, none⟩ = some (.int .i64 I.d.im) := by have := Hone.out 10 _ rfl; rwa [Nat.zero_add] at this
    have zone_11 : w7.cell? ⟨w5.heap.size, 11, none⟩ = some (.int .i64 I.d.den) := by have := Hone.out 11 _ rfl; rwa [Nat.zero_add] at this
    have zo_0 : w7.cell? ⟨w2.heap.size, 0, none⟩ = some (.int .i64 m.a.re) := by have := Ho.out 0 _ rfl; rwa [Nat.zero_add] at this
    have zo_1 : w7.cell? ⟨w2.heap.size, 1, none⟩ = some (.int .i64 m.a.im) := by have := Ho.out 1 _ rfl; rwa [Nat.zero_add] at this
    have zo_2 : w7.cell? ⟨w2.heap.size, 2, none⟩ = some (.int .i64 m.a.den) := by have := Ho.out 2 _ rfl; rwa [Nat.zero_add] at this
    have zo_3 : w7.cell? ⟨w2.heap.size, 3, none⟩ = some (.int .i64 m.b.re) := by have := Ho.out 3 _ rfl; rwa [Nat.zero_add] at this
    have zo_4 : w7.cell? ⟨w2.heap.size, 4, none⟩ = some (.int .i64 m.b.im) := by have := Ho.out 4 _ rfl; rwa [Nat.zero_add] at this
    have zo_5 : w7.cell? ⟨w2.heap.size, 5, none⟩ = some (.int .i64 m.b.den) := by have := Ho.out 5 _ rfl; rwa [Nat.zero_add] at this
    have zo_6 : w7.cell? ⟨w2.heap.size, 6, none⟩ = some (.int .i64 m.c.re) := by have := Ho.out 6 _ rfl; rwa [Nat.zero_add] at this
    have zo_7 : w7.cell? ⟨w2.heap.size, 7, none⟩ = some (.int .i64 m.c.im) := by have := Ho.out 7 _ rfl; rwa [Nat.zero_add] at this
    have zo_8 : w7.cell? ⟨w2.heap.size, 8, none⟩ = some (.int .i64 m.c.den) := by have := Ho.out 8 _ rfl; rwa [Nat.zero_add] at this
    have zo_9 : w7.cell? ⟨w2.heap.size, 9, none⟩ = some (.int .i64 m.d.re) := by have := Ho.out 9 _ rfl; rwa [Nat.zero_add] at this
    have zo_10 : w7.cell? ⟨w2.heap.size, 10, none⟩ = some (.int .i64 m.d.im) := by have := Ho.out 10 _ rfl; rwa [Nat.zero_add] at this
    have zo_11 : w7.cell? ⟨w2.heap.size, 11, none⟩ = some (.int .i64 m.d.den) := by have := Ho.out 11 _ rfl; rwa [Nat.zero_add] at this
    go_wp2_with fail
    refine (ilos_any m _ (HG_same.out.below (Below.alloc HB.out (by first | omega | (simp; done) | (simp <;> omega)) _))).mono ?_
    rintro e w8 ho
    rw [HLm.out] at ho
    obtain ⟨rfl, hb⟩ : e = .returned (.bool true) ∧ Below _ _ _ := (id ho)
    clear ho
    have HB := Lib.hid (show Below w.heap.size w w8 from HB.out.trans ((show Below _ _ _ from ((Below.refl _ _).alloc (by omega) _)).trans (hb.mono (by first | omega | (simp <;> omega)))))
    have Ho : Hid (w8.rangeAt (w2.heap.size) 0 [.int .i64 m.a.re, .int .i64 m.a.im, .int .i64 m.a.den, .int .i64 m.b.re, .int .i64 m.b.im, .int .i64 m.b.den, .int .i64 m.c.re, .int .i64 m.c.im, .int .i64 m.c.den, .int .i64 m.d.re, .int .i64 m.d.im, .int .i64 m.d.den]) := rangeAt_below (World.rangeAt_alloc Ho.out _) hb (by first | omega | (simp; done) | (simp <;> omega))
    have Hq : Hid (w8.rangeAt (w3.heap.size) 0 [.int .i64 m.a.re, .int .i64 m.a.im, .int .i64 m.a.den, .int .i64 m.b.re, .int .i64 m.b.im, .int .i64 m.b.den, .int .i64 m.c.re, .int .i64 m.c.im, .int .i64 m.c.den, .int .i64 m.d.re, .int .i64 m.d.im, .int .i64 m.d.den]) := rangeAt_below (World.rangeAt_alloc Hq.out _) hb (by first | omega | (simp; done) | (simp <;> omega))
    have Hbk : Hid (w8.rangeAt (w4.heap.size) 0 [.int .i64 b.a.re, .int .i64 b.a.im, .int .i64 b.a.den, .int .i64 b.b.re, .int .i64 b.b.im, .int .i64 b.b.den, .int .i64 b.c.re, .int .i64 b.c.im, .int .i64 b.c.den, .int .i64 b.d.re, .int .i64 b.d.im, .int .i64 b.d.den]) := rangeAt_below (World.rangeAt_alloc Hbk.out _) hb (by first | omega | (simp; done) | (simp <;> omega))
    have Hone : Hid (w8.rangeAt (w5.heap.size) 0 [.int .i64 I.a.re, .int .i64 I.a.im, .int .i64 I.a.den, .int .i64 I.b.re, .int .i64 I.b.im, .int .i64 I.b.den, .int .i64 I.c.re, .int .i64 I.c.im, .int .i64 I.c.den, .int .i64 I.d.re, .int .i64 I.d.im, .int .i64 I.d.den]) := rangeAt_below (World.rangeAt_alloc Hone.out _) hb (by first | omega | (simp; done) | (simp <;> omega))
    have Hbx : Hid (w8.rangeAt (w6.heap.size) 0 [.int .i64 I.a.re, .int .i64 I.a.im, .int .i64 I.a.den, .int .i64 I.b.re, .int .i64 I.b.im, .int .i64 I.b.den, .int .i64 I.c.re, .int .i64 I.c.im, .int .i64 I.c.den, .int .i64 I.d.re, .int .i64 I.d.im, .int .i64 I.d.den]) := rangeAt_below (World.rangeAt_alloc Hbx.out _) hb (by first | omega | (simp; done) | (simp <;> omega))
    have Hd : Hid (w8.rangeAt w7.heap.size 0 [.int .i64 1, .int .i64 0, .int .i64 1]) := rangeAt_below (rangeAt_new _ _ _) hb (by first | omega | (simp; done) | (simp <;> omega))
    have hz8 := hb.size
    (try simp at hz8)
    clear hb
    have nA0 : w2.heap.size < w8.heap.size := by omega
    have nB0 : ¬ w2.heap.size = w8.heap.size := by omega
    have nC0 : ¬ w8.heap.size = w2.heap.size := by omega
    have nA1 : w3.heap.size < w8.heap.size := by omega
    have nB1 : ¬ w3.heap.size = w8.heap.size := by omega
    have nC1 : ¬ w8.heap.size = w3.heap.size := by omega
    have nA2 : w4.heap.size < w8.heap.size := by omega
    have nB2 : ¬ w4.heap.size = w8.heap.size := by omega
    have nC2 : ¬ w8.heap.size = w4.heap.size := by omega
    have nA3 : w5.heap.size < w8.heap.size := by omega
    have nB3 : ¬ w5.heap.size = w8.heap.size := by omega
    have nC3 : ¬ w8.heap.size = w5.heap.size := by omega
    have nA4 : w6.heap.size < w8.heap.size := by omega
    have nB4 : ¬ w6.heap.size = w8.heap.size := by omega
    have nC4 : ¬ w8.heap.size = w6.heap.size := by omega
    have nA5 : w7.heap.size < w8.heap.size := by omega
    have nB5 : ¬ w7.heap.size = w8.heap.size := by omega
    have nC5 : ¬ w8.heap.size = w7.heap.size := by omega
    go_wp2_with fail
    go_ret
    exact ⟨rfl, (by (repeat' first | (with_reducible exact HB.out) | with_reducible refine setCells_below _ _ _ ?_ (by first | omega | (simp <;> omega)) | with_reducible refine Below.setCell ?_ (by show _ ≤ _; first | omega | (simp <;> omega) | simp) _ | with_reducible refine Below.alloc ?_ (by first | omega | (simp <;> omega)) _ | with_reducible apply Below.drew))⟩

set_option maxRecDepth 100000 in
theorem door_FnRotator (os : Os) (args : Array Value) : laidMetH Tryd.prog Rows.fnRotatorRow.laid ((World.doorLaid Tryd.prog 43 os).forCall (fun _ _ => 0) ⟨#[], args, []⟩).memory :=
  laidMetH_of_parts3 (fuel := 8) (laidMet_of_run' 8 (by kernel_rfl) (by kernel_rfl)) (by kernel_rfl) (by kernel_rfl)
set_option maxRecDepth 100000 in
theorem lifted_FnRotator (os : Os) (started : os.Started) (H : Type) (enc : TypeId × Value → H) :
    ReturnsInHanded {} Tryd.checked os 4 .any (fun w args => (Rows.fnRotatorSpec.pre enc Tryd.prog Tryd.f4 [] false w args ∧ laidMetH Tryd.prog Rows.fnRotatorRow.laid w) ∧ sizedMet enc Tryd.prog Tryd.f4 (OpenSpec.ofChange Rows.fnRotatorSpec) false w args) (Rows.fnRotatorSpec.post enc Tryd.prog Tryd.f4 false true false false) := by
  refine returnsInHanded_of_change_and (C := Tryd.checked) (X := fun w _ => laidMetH Tryd.prog Rows.fnRotatorRow.laid w) (fun _ _ _ hh h => h.of_heap hh) Tryd.own started (by kernel_rfl) Tryd.func4
    (ChangeSpec.witness_shaped (enc := enc) (C := Tryd.checked) (os := os) (X := fun w _ => laidMetH Tryd.prog Rows.fnRotatorRow.laid w) false (World.doorLaid Tryd.prog 43 os) #[.slice none 0 0] 8 rfl (World.shaped_of_RefB (by kernel_rfl) (by kernel_rfl)) (by kernel_rfl) (by kernel_rfl) (by kernel_rfl) (door_FnRotator os _)) ?_
  intro W base args ds gs before hval0 hW _ _ hL _
  have hval : ∀ (j : Nat) t v, Tryd.f4.params[j]? = some t → args[j]? = some v → Value.okWide Tryd.prog W .any base t v := hval0
  have hW' := hW
  obtain ⟨p, q, hA0, hV, rfl, hfz, hnd⟩ := hW
  have hA : DataW.TrodAll enc Tryd.prog W 0 (fun _ => true) true Tryd.f4.params.toList args.toList ds p := hA0
  rw [Tryd.params4] at hA hval
  obtain ⟨v0, d0, rfl, rfl, h0⟩ := trodAll_one hA
  obtain ⟨g0, rfl⟩ := len1 (vars_len hV)
  have hG_same := gat_same hL (by decide) (by simp [Rows.fnRotatorRow, Rows.laid_loop_example_polarisedlight_impl_same])
  have h0k := h0
  obtain ⟨fuel, hf⟩ := h0
  clear hA0 hval0
  have hlt : ∀ x ∈ p, x.block < W.heap.size := fun x hx => by simpa using hW'.lt x (List.mem_append_left _ hx)
  obtain ⟨a0, len, cap, rfl⟩ := okWide_slice Tryd.underlying22 (hval 0 22 v0 rfl rfl)
  obtain ⟨hcap, HC⟩ := open_code hf hlt
  refine (walk_FnRotator a0 len cap W hcap HC hG_same).mono fun e W' ⟨he, hb⟩ => ?_
  subst he
  refine ⟨_, rfl, _, _, _, [], p, q, hW', trodAll_mk1 (shut_bool Tryd.underlying4 _), trodAll_mk1 (Below.trod Tryd.laidOut (by kernel_rfl) (of_decide_eq_true (by kernel_rfl)) h0k hb (fun x hx => hlt x (by simp [hx]))), Below.trodVars Tryd.laidOut hb (by kernel_rfl) hV, hb.frame _, fun h => by cases h⟩
theorem said_FnRotator : Rows.FnRotatorSaid :=
  OpenClaim.holds_of_wide 4 Tryd.f4 rfl rfl rfl rfl rfl rfl rfl ⟨rfl, rfl, rfl, rfl, rfl⟩ rfl rfl rfl rfl rfl (by kernel_rfl) Tryd.func4 (by kernel_rfl)
    (of_decide_eq_true (by kernel_rfl)) (by unfold Func.isWrapper; first | (rw [if_pos (by decide +kernel)]; kernel_rfl) | (rw [if_neg (by decide +kernel)]; exact ⟨rfl, rfl⟩))
    (fun os started H enc _ => lifted_FnRotator os started H enc)
set_option maxRecDepth 100000 in
/-- THE STATEMENT: THE CARD. -/
theorem holds_FnRotator : Rows.FnRotatorCardSaid :=
  Claim7.holds_tied_plain_at .later [] [.data] true (true, "3d2c88d957d06082902c58164e94ed0f70d9b698276363a5f755186a5af957fe") false
    said_FnRotator (fun _ h => by cases h) (by kernel_rfl) (fun _ h => by cases h) fnRotator_row_tie rfl ⟨rfl, rfl⟩ (by kernel_rfl) rfl
    (fun f fn hf hfn => by
      obtain rfl : f = 4 := Option.some.inj ((show Tryd.prog.funcNamed "loop.example/polarisedlight/laws.FnRotator" = some 4 by kernel_rfl).symm.trans hf) |>.symm
      obtain rfl : fn = Tryd.f4 := (Option.some.inj (Tryd.func4.symm.trans hfn)).symm
      exact ⟨by kernel_rfl, fun j t ht => by
        rw [Tryd.params4] at ht
        have hm : t ∈ [22] := by simpa using Array.mem_of_getElem? ht
        have hall : ([22].all fun u => !Tryd.prog.wantsStandIn u) = true := by kernel_rfl
        exact (show Tryd.prog.wantsStandIn t = false by simpa using List.all_eq_true.1 hall t hm)⟩)
    (by kernel_rfl)
end Go.Proofs.YtcpdapfcbnhgaaaDoor
