/- Lossless matrices have determinants of the power 1. The row lists package-level variables, and the card ties them to the text of the program: the pruned copy of the project that the seat holds. -/
import Derived.Test.YtcpdapfcbnhgaaaDoorDW3
import Derived.Test.YtcpdapfcbnhgaaaDoorPV
import Derived.Test.YtcpdapfcbnhgaaaDoorTie
import Derived.Test.YtcpdapfcbnhgaaaDoorCards
import Derived.SevenTiedAt
import Derived.Test.YtcpdapfcbnhgaaaDoorQL
import Derived.Test.YtcpdapfcbnhgaaaDoorP
import Derived.Test.YtcpdapfcbnhgaaaDoorU
import Derived.Test.YtcpdapfcbnhgaaaDoorEQ2
namespace Go.Proofs.YtcpdapfcbnhgaaaDoor
open Go.ChangeShapes Go.WideShapes Go.ChangeAt Go.RowKit Pol

set_option maxRecDepth 100000 in
set_option maxHeartbeats 40000000 in
theorem walk_FnDet (a0 : Option Addr) (len cap : Nat) (w : World) (hcap : len ≤ cap) (HC : Code w.heap.size w a0 len) (hg_same : Gat w 0 mSame.get 4) :
    Calls Tryd.prog 8 #[.slice a0 len cap] w fun e w' => e = .returned (.bool true) ∧ Below w.heap.size w w' := by
  by_cases hbig : 1048576 < len
  · have h1 : (1048576 : Int) < (len : Int) := by omega
    go_enter Tryd.func8, Tryd.ntmps8
    go_wp2
    go_ret
    exact ⟨rfl, Below.refl _ _⟩
  have h1 : ¬ (1048576 : Int) < (len : Int) := by omega
  have HG_same := Lib.hid hg_same; clear hg_same
  go_enter Tryd.func8, Tryd.ntmps8
  go_wp2_with fail
  refine (DrawMatDet_any a0 len cap _ hcap HC).mono ?_
  rintro e w1 ⟨a, rfl, hb⟩
  rw [cl4 a]
  have HB := Lib.hid (show Below w.heap.size w w1 from hb)
  have hz1 := hb.size
  (try simp at hz1)
  clear hb
  cases hq : (gDet a).2
  · skip
    have HG : Hid (gDet a = (fz, false)) := gDet_no _ hq
    go_wp2_with (first | ((with_reducible refine wpList_load_mid ?kl81 45 ?kl8x ?kl82 (w1.heap.size) 0 ?kl83 [.int .i64 a.a.re, .int .i64 a.a.im, .int .i64 a.a.den, .int .i64 a.b.re, .int .i64 a.b.im, .int .i64 a.b.den, .int .i64 a.c.re, .int .i64 a.c.im, .int .i64 a.c.den, .int .i64 a.d.re, .int .i64 a.d.im, .int .i64 a.d.den] ?kl8d ?kl84 ?kl85 ?kl86 ?kl87 ?kl88); (case kl82 => rfl); (case kl81 => rfl); (case kl83 => rfl); (case kl84 => (exact (rangeAt_new _ _ _))); (case kl85 => exact Tryd.underlying45); (case kl86 => rfl); (case kl87 => kernel_rfl)))
    refine (imatdet_any a _).mono ?_
    rintro e w2 ho
    rw [HG.out] at ho
    obtain ⟨rfl, hb⟩ : e = .returned (.tuple #[.agg #[.int .i64 fz.re, .int .i64 fz.im, .int .i64 fz.den], .bool false]) ∧ Below _ _ _ := ho.fn
    clear ho
    have HB := Lib.hid (show Below w.heap.size w w2 from HB.out.trans ((show Below _ _ _ from ((Below.refl _ _).alloc (by omega) _)).trans (hb.mono (by first | omega | (simp <;> omega)))))
    have Ha : Hid (w2.rangeAt w1.heap.size 0 [.int .i64 a.a.re, .int .i64 a.a.im, .int .i64 a.a.den, .int .i64 a.b.re, .int .i64 a.b.im, .int .i64 a.b.den, .int .i64 a.c.re, .int .i64 a.c.im, .int .i64 a.c.den, .int .i64 a.d.re, .int .i64 a.d.im, .int .i64 a.d.den]) := rangeAt_below (rangeAt_new _ _ _) hb (by first | omega | (simp; done) | (simp <;> omega))
    have hz2 := hb.size
    (try simp at hz2)
    clear hb
    have nA0 : w1.heap.size < w2.heap.size := by omega
    have nB0 : ¬ w1.heap.size = w2.heap.size := by omega
    have nC0 : ¬ w2.heap.size = w1.heap.size := by omega
    go_wp2_with (first | ((with_reducible refine wpList_load_mid ?kl91 45 ?kl9x ?kl92 (w1.heap.size) 0 ?kl93 [.int .i64 a.a.re, .int .i64 a.a.im, .int .i64 a.a.den, .int .i64 a.b.re, .int .i64 a.b.im, .int .i64 a.b.den, .int .i64 a.c.re, .int .i64 a.c.im, .int .i64 a.c.den, .int .i64 a.d.re, .int .i64 a.d.im, .int .i64 a.d.den] ?kl9d ?kl94 ?kl95 ?kl96 ?kl97 ?kl98); (case kl92 => rfl); (case kl91 => rfl); (case kl93 => rfl); (case kl94 => (exact (World.rangeAt_alloc Ha.out _))); (case kl95 => exact Tryd.underlying45); (case kl96 => rfl); (case kl97 => kernel_rfl)))
    refine (smatdet_any a _).mono ?_
    rintro e w3 ho
    rw [HG.out] at ho
    obtain ⟨rfl, hb⟩ : e = .returned (.tuple #[.agg #[.int .i64 fz.re, .int .i64 fz.im, .int .i64 fz.den], .bool false]) ∧ Below _ _ _ := ho.fn
    clear ho
    have HB := Lib.hid (show Below w.heap.size w w3 from HB.out.trans ((show Below _ _ _ from ((Below.refl _ _).alloc (by omega) _)).trans (hb.mono (by first | omega | (simp <;> omega)))))
    have Ha : Hid (w3.rangeAt (w1.heap.size) 0 [.int .i64 a.a.re, .int .i64 a.a.im, .int .i64 a.a.den, .int .i64 a.b.re, .int .i64 a.b.im, .int .i64 a.b.den, .int .i64 a.c.re, .int .i64 a.c.im, .int .i64 a.c.den, .int .i64 a.d.re, .int .i64 a.d.im, .int .i64 a.d.den]) := rangeAt_below (World.rangeAt_alloc Ha.out _) hb (by first | omega | (simp; done) | (simp <;> omega))
    have Ho : Hid (w3.rangeAt w2.heap.size 0 [.int .i64 fz.re, .int .i64 fz.im, .int .i64 fz.den]) := rangeAt_below (rangeAt_new _ _ _) hb (by first | omega | (simp; done) | (simp <;> omega))
    have hz3 := hb.size
    (try simp at hz3)
    clear hb
    have nA0 : w1.heap.size < w3.heap.size := by omega
    have nB0 : ¬ w1.heap.size = w3.heap.size := by omega
    have nC0 : ¬ w3.heap.size = w1.heap.size := by omega
    have nA1 : w2.heap.size < w3.heap.size := by omega
    have nB1 : ¬ w2.heap.size = w3.heap.size := by omega
    have nC1 : ¬ w3.heap.size = w2.heap.size := by omega
    have zo_0 : w3.cell? ⟨w2.heap.size, 0, none⟩ = some (.int .i64 fz.re) := by have := Ho.out 0 _ rfl; rwa [Nat.zero_add] at this
    have zo_1 : w3.cell? ⟨w2.heap.size, 1, none⟩ = some (.int .i64 fz.im) := by have := Ho.out 1 _ rfl; rwa [Nat.zero_add] at this
    have zo_2 : w3.cell? ⟨w2.heap.size, 2, none⟩ = some (.int .i64 fz.den) := by have := Ho.out 2 _ rfl; rwa [Nat.zero_add] at this
    go_wp2_with fail
    go_ret
    exact ⟨rfl, (by (repeat' first | (with_reducible exact HB.out) | with_reducible refine setCells_below _ _ _ ?_ (by first | omega | (simp <;> omega)) | with_reducible refine Below.setCell ?_ (by show _ ≤ _; first | omega | (simp <;> omega) | simp) _ | with_reducible refine Below.alloc ?_ (by first | omega | (simp <;> omega)) _ | with_reducible apply Below.drew))⟩
  · skip
    obtain ⟨d, hd⟩ : ∃ d, d = (gDet a).1 := ⟨_, rfl⟩
    have hG : gDet a = (d, true) := by rw [hd, ← hq]
    obtain ⟨n, p, hn⟩ : ∃ n p, fPower d = (n, p) := ⟨_, _, rfl⟩
    have HW := Lib.hid (fun (h : p = true) (k : gLos a = true) => law_ldet k hG (n := n) (by rw [hn, h]))
    have HG := Lib.hid hG
    have HN := Lib.hid hn
    clear hG hn hd hq
    go_wp2_with (first | ((with_reducible refine wpList_load_mid ?kl101 45 ?kl10x ?kl102 (w1.heap.size) 0 ?kl103 [.int .i64 a.a.re, .int .i64 a.a.im, .int .i64 a.a.den, .int .i64 a.b.re, .int .i64 a.b.im, .int .i64 a.b.den, .int .i64 a.c.re, .int .i64 a.c.im, .int .i64 a.c.den, .int .i64 a.d.re, .int .i64 a.d.im, .int .i64 a.d.den] ?kl10d ?kl104 ?kl105 ?kl106 ?kl107 ?kl108); (case kl102 => rfl); (case kl101 => rfl); (case kl103 => rfl); (case kl104 => (exact (rangeAt_new _ _ _))); (case kl105 => exact Tryd.underlying45); (case kl106 => rfl); (case kl107 => kernel_rfl)))
    refine (imatdet_any a _).mono ?_
    rintro e w2 ho
    rw [HG.out] at ho
    obtain ⟨rfl, hb⟩ : e = .returned (.tuple #[.agg #[.int .i64 d.re, .int .i64 d.im, .int .i64 d.den], .bool true]) ∧ Below _ _ _ := ho.fn
    clear ho
    have HB := Lib.hid (show Below w.heap.size w w2 from HB.out.trans ((show Below _ _ _ from ((Below.refl _ _).alloc (by omega) _)).trans (hb.mono (by first | omega | (simp <;> omega)))))
    have Ha : Hid (w2.rangeAt w1.heap.size 0 [.int .i64 a.a.re, .int .i64 a.a.im, .int .i64 a.a.den, .int .i64 a.b.re, .int .i64 a.b.im, .int .i64 a.b.den, .int .i64 a.c.re, .int .i64 a.c.im, .int .i64 a.c.den, .int .i64 a.d.re, .int .i64 a.d.im, .int .i64 a.d.den]) := rangeAt_below (rangeAt_new _ _ _) hb (by first | omega | (simp; done) | (simp <;> omega))
    have hz2 := hb.size
    (try simp at hz2)
    clear hb
    have nA0 : w1.heap.size < w2.heap.size := by omega
    have nB0 : ¬ w1.heap.size = w2.heap.size := by omega
    have nC0 : ¬ w2.heap.size = w1.heap.size := by omega
    go_wp2_with (first | ((with_reducible refine wpList_load_mid ?kl111 45 ?kl11x ?kl112 (w1.heap.size) 0 ?kl113 [.int .i64 a.a.re, .int .i64 a.a.im, .int .i64 a.a.den, .int .i64 a.b.re, .int .i64 a.b.im, .int .i64 a.b.den, .int .i64 a.c.re, .int .i64 a.c.im, .int .i64 a.c.den, .int .i64 a.d.re, .int .i64 a.d.im, .int .i64 a.d.den] ?kl11d ?kl114 ?kl115 ?kl116 ?kl117 ?kl118); (case kl112 => rfl); (case kl111 => rfl); (case kl113 => rfl); (case kl114 => (exact (World.rangeAt_alloc Ha.out _))); (case kl115 => exact Tryd.underlying45); (case kl116 => rfl); (case kl117 => kernel_rfl)))
    refine (smatdet_any a _).mono ?_
    rintro e w3 ho
    rw [HG.out] at ho
    obtain ⟨rfl, hb⟩ : e = .returned (.tuple #[.agg #[.int .i64 d.re, .int .i64 d.im, .int .i64 d.den], .bool true]) ∧ Below _ _ _ := ho.fn
    clear ho
    have HB := Lib.hid (show Below w.heap.size w w3 from HB.out.trans ((show Below _ _ _ from ((Below.refl _ _).alloc (by omega) _)).trans (hb.mono (by first | omega | (simp <;> omega)))))
    have Ha : Hid (w3.rangeAt (w1.heap.size) 0 [.int .i64 a.a.re, .int .i64 a.a.im, .int .i64 a.a.den, .int .i64 a.b.re, .int .i64 a.b.im, .int .i64 a.b.den, .int .i64 a.c.re, .int .i64 a.c.im, .int .i64 a.c.den, .int .i64 a.d.re, .int .i64 a.d.im, .int .i64 a.d.den]) := rangeAt_below (World.rangeAt_alloc Ha.out _) hb (by first | omega | (simp; done) | (simp <;> omega))
    have Ho : Hid (w3.rangeAt w2.heap.size 0 [.int .i64 d.re, .int .i64 d.im, .int .i64 d.den]) := rangeAt_below (rangeAt_new _ _ _) hb (by first | omega | (simp; done) | (simp <;> omega))
    have hz3 := hb.size
    (try simp at hz3)
    clear hb
    have nA0 : w1.heap.size < w3.heap.size := by omega
    have nB0 : ¬ w1.heap.size = w3.heap.size := by omega
    have nC0 : ¬ w3.heap.size = w1.heap.size := by omega
    have nA1 : w2.heap.size < w3.heap.size := by omega
    have nB1 : ¬ w2.heap.size = w3.heap.size := by omega
    have nC1 : ¬ w3.heap.size = w2.heap.size := by omega
    have zo_0 : w3.cell? ⟨w2.heap.size, 0, none⟩ = some (.int .i64 d.re) := by have := Ho.out 0 _ rfl; rwa [Nat.zero_add] at this
    have zo_1 : w3.cell? ⟨w2.heap.size, 1, none⟩ = some (.int .i64 d.im) := by have := Ho.out 1 _ rfl; rwa [Nat.zero_add] at this
    have zo_2 : w3.cell? ⟨w2.heap.size, 2, none⟩ = some (.int .i64 d.den) := by have := Ho.out 2 _ rfl; rwa [Nat.zero_add] at this
    go_wp2_with (first | ((with_reducible refine wpList_load_mid ?kl121 25 ?kl12x ?kl122 (w2.heap.size) 0 ?kl123 [.int .i64 d.re, .int .i64 d.im, .int .i64 d.den] ?kl12d ?kl124 ?kl125 ?kl126 ?kl127 ?kl128); (case kl122 => rfl); (case kl121 => rfl); (case kl123 => rfl); (case kl124 => (exact (World.rangeAt_alloc Ho.out _))); (case kl125 => exact Tryd.underlying25); (case kl126 => rfl); (case kl127 => kernel_rfl)))
    refine (power_fr d _).mono ?_
    rintro e w4 ho
    rw [HN.out] at ho
    obtain ⟨rfl, hb⟩ : e = .returned (.tuple #[.agg #[.int .i64 n.re, .int .i64 n.im, .int .i64 n.den], .bool p]) ∧ Below _ _ _ := ho.fn
    clear ho
    have HB := Lib.hid (show Below w.heap.size w w4 from HB.out.trans ((show Below _ _ _ from ((Below.refl _ _).alloc (by omega) _)).trans (hb.mono (by first | omega | (simp <;> omega)))))
    have Ha : Hid (w4.rangeAt (w1.heap.size) 0 [.int .i64 a.a.re, .int .i64 a.a.im, .int .i64 a.a.den, .int .i64 a.b.re, .int .i64 a.b.im, .int .i64 a.b.den, .int .i64 a.c.re, .int .i64 a.c.im, .int .i64 a.c.den, .int .i64 a.d.re, .int .i64 a.d.im, .int .i64 a.d.den]) := rangeAt_below (World.rangeAt_alloc Ha.out _) hb (by first | omega | (simp; done) | (simp <;> omega))
    have Ho : Hid (w4.rangeAt (w2.heap.size) 0 [.int .i64 d.re, .int .i64 d.im, .int .i64 d.den]) := rangeAt_below (World.rangeAt_alloc Ho.out _) hb (by first | omega | (simp; done) | (simp <;> omega))
    have Hq : Hid (w4.rangeAt w3.heap.size 0 [.int .i64 d.re, .int .i64 d.im, .int .i64 d.den]) := rangeAt_below (rangeAt_new _ _ _) hb (by first | omega | (simp; done) | (simp <;> omega))
    have hz4 := hb.size
    (try simp at hz4)
    clear hb
    have nA0 : w1.heap.size < w4.heap.size := by omega
    have nB0 : ¬ w1.heap.size = w4.heap.size := by omega
    have nC0 : ¬ w4.heap.size = w1.heap.size := by omega
    have nA1 : w2.heap.size < w4.heap.size := by omega
    have nB1 : ¬ w2.heap.size = w4.heap.size := by omega
    have nC1 : ¬ w4.heap.size = w2.heap.size := by omega
    have nA2 : w3.heap.size < w4.heap.size := by omega
    have nB2 : ¬ w3.heap.size = w4.heap.size := by omega
    have nC2 : ¬ w4.heap.size = w3.heap.size := by omega
    have za_0 : w4.cell? ⟨w1.heap.size, 0, none⟩ = some (.int .i64 a.a.re) := by have := Ha.out 0 _ rfl; rwa [Nat.zero_add] at this
    have za_1 : w4.cell? ⟨w1.heap.size, 1, none⟩ = some (.int .i64 a.a.im) := by have := Ha.out 1 _ rfl; rwa [Nat.zero_add] at this
    have za_2 : w4.cell? ⟨w1.heap.size, 2, none⟩ = some (.int .i64 a.a.den) := by have := Ha.out 2 _ rfl; rwa [Nat.zero_add] at this
    have za_3 : w4.cell? ⟨w1.heap.size, 3, none⟩ = some (.int .i64 a.b.re) := by have := Ha.out 3 _ rfl; rwa [Nat.zero_add] at this
    have za_4 : w4.cell? ⟨w1.heap.size, 4, none⟩ = some (.int .i64 a.b.im) := by have := Ha.out 4 _ rfl; rwa [Nat.zero_add] at this
    have za_5 : w4.cell? ⟨w1.heap.size, 5, none⟩ = some (.int .i64 a.b.den) := by have := Ha.out 5 _ rfl; rwa [Nat.zero_add] at this
    have za_6 : w4.cell? ⟨w1.heap.size, 6, none⟩ = some (.int .i64 a.c.re) := by have := Ha.out 6 _ rfl; rwa [Nat.zero_add] at this
    have za_7 : w4.cell? ⟨w1.heap.size, 7, none⟩ = some (.int .i64 a.c.im) := by have := Ha.out 7 _ rfl; rwa [Nat.zero_add] at this
    have za_8 : w4.cell? ⟨w1.heap.size, 8, none⟩ = some (.int .i64 a.c.den) := by have := Ha.out 8 _ rfl; rwa [Nat.zero_add] at this
    have za_9 : w4.cell? ⟨w1.heap.size, 9, none⟩ = some (.int .i64 a.d.re) := by have := Ha.out 9 _ rfl; rwa [Nat.zero_add] at this
    have za_10 : w4.cell? ⟨w1.heap.size, 10, none⟩ = some (.int .i64 a.d.im) := by have := Ha.out 10 _ rfl; rwa [Nat.zero_add] at this
    have za_11 : w4.cell? ⟨w1.heap.size, 11, none⟩ = some (.int .i64 a.d.den) := by have := Ha.out 11 _ rfl; rwa [Nat.zero_add] at this
    cases p
    · skip
      go_wp2_with fail
      go_ret
      exact ⟨rfl, (by (repeat' first | (with_reducible exact HB.out) | with_reducible refine setCells_below _ _ _ ?_ (by first | omega | (simp <;> omega)) | with_reducible refine Below.setCell ?_ (by show _ ≤ _; first | omega | (simp <;> omega) | simp) _ | with_reducible refine Below.alloc ?_ (by first | omega | (simp <;> omega)) _ | with_reducible apply Below.drew))⟩
    cases hl : gLos a
    · skip
      go_wp2_with fail
      refine (ilos_any a _ (HG_same.out.below (Below.alloc HB.out (by first | omega | (simp; done) | (simp <;> omega)) _))).mono ?_
      rintro e w5 ho
      rw [hl] at ho
      obtain ⟨rfl, hb⟩ : e = .returned (.bool false) ∧ Below _ _ _ := (id ho)
      clear ho
      have HB := Lib.hid (show Below w.heap.size w w5 from HB.out.trans ((show Below _ _ _ from ((Below.refl _ _).alloc (by omega) _)).trans (hb.mono (by first | omega | (simp <;> omega)))))
      have Ha : Hid (w5.rangeAt (w1.heap.size) 0 [.int .i64 a.a.re, .int .i64 a.a.im, .int .i64 a.a.den, .int .i64 a.b.re, .int .i64 a.b.im, .int .i64 a.b.den, .int .i64 a.c.re, .int .i64 a.c.im, .int .i64 a.c.den, .int .i64 a.d.re, .int .i64 a.d.im, .int .i64 a.d.den]) := rangeAt_below (World.rangeAt_alloc Ha.out _) hb (by first | omega | (simp; done) | (simp <;> omega))
      have Ho : Hid (w5.rangeAt (w2.heap.size) 0 [.int .i64 d.re, .int .i64 d.im, .int .i64 d.den]) := rangeAt_below (World.rangeAt_alloc Ho.out _) hb (by first | omega | (simp; done) | (simp <;> omega))
      have Hq : Hid (w5.rangeAt (w3.heap.size) 0 [.int .i64 d.re, .int .i64 d.im, .int .i64 d.den]) := rangeAt_below (World.rangeAt_alloc Hq.out _) hb (by first | omega | (simp; done) | (simp <;> omega))
      have Hn : Hid (w5.rangeAt w4.heap.size 0 [.int .i64 n.re, .int .i64 n.im, .int .i64 n.den]) := rangeAt_below (rangeAt_new _ _ _) hb (by first | omega | (simp; done) | (simp <;> omega))
      have hz5 := hb.size
      (try simp at hz5)
      clear hb
      have nA0 : w1.heap.size < w5.heap.size := by omega
      have nB0 : ¬ w1.heap.size = w5.heap.size := by omega
      have nC0 : ¬ w5.heap.size = w1.heap.size := by omega
      have nA1 : w2.heap.size < w5.heap.size := by omega
      have nB1 : ¬ w2.heap.size = w5.heap.size := by omega
      have nC1 : ¬ w5.heap.size = w2.heap.size := by omega
      have nA2 : w3.heap.size < w5.heap.size := by omega
      have nB2 : ¬ w3.heap.size = w5.heap.size := by omega
      have nC2 : ¬ w5.heap.size = w3.heap.size := by omega
      have nA3 : w4.heap.size < w5.heap.size := by omega
      have nB3 : ¬ w4.heap.size = w5.heap.size := by omega
      have nC3 : ¬ w5.heap.size = w4.heap.size := by omega
      have zn_0 : w5.cell? ⟨w4.heap.size, 0, none⟩ = some (.int .i64 n.re) := by have := Hn.out 0 _ rfl; rwa [Nat.zero_add] at this
      have zn_1 : w5.cell? ⟨w4.heap.size, 1, none⟩ = some (.int .i64 n.im) := by have := Hn.out 1 _ rfl; rwa [Nat.zero_add] at this
      have zn_2 : w5.cell? ⟨w4.heap.size, 2, none⟩ = some (.int .i64 n.den) := by have := Hn.out 2 _ rfl; rwa [Nat.zero_add] at this
      go_wp2_with fail
      go_ret
      exact ⟨rfl, (by (repeat' first | (with_reducible exact HB.out) | with_reducible refine setCells_below _ _ _ ?_ (by first | omega | (simp <;> omega)) | with_reducible refine Below.setCell ?_ (by show _ ≤ _; first | omega | (simp <;> omega) | simp) _ | with_reducible refine Below.alloc ?_ (by first | omega | (simp <;> omega)) _ | with_reducible apply Below.drew))⟩
    have HE1 := Lib.hid (HW.out rfl hl)
    clear HW
    go_wp2_with fail
    refine (ilos_any a _ (HG_same.out.below (Below.alloc HB.out (by first | omega | (simp; done) | (simp <;> omega)) _))).mono ?_
    rintro e w5 ho
    rw [hl] at ho
    obtain ⟨rfl, hb⟩ : e = .returned (.bool true) ∧ Below _ _ _ := (id ho)
    clear ho
    have HB := Lib.hid (show Below w.heap.size w w5 from HB.out.trans ((show Below _ _ _ from ((Below.refl _ _).alloc (by omega) _)).trans (hb.mono (by first | omega | (simp <;> omega)))))
    have Ha : Hid (w5.rangeAt (w1.heap.size) 0 [.int .i64 a.a.re, .int .i64 a.a.im, .int .i64 a.a.den, .int .i64 a.b.re, .int .i64 a.b.im, .int .i64 a.b.den, .int .i64 a.c.re, .int .i64 a.c.im, .int .i64 a.c.den, .int .i64 a.d.re, .int .i64 a.d.im, .int .i64 a.d.den]) := rangeAt_below (World.rangeAt_alloc Ha.out _) hb (by first | omega | (simp; done) | (simp <;> omega))
    have Ho : Hid (w5.rangeAt (w2.heap.size) 0 [.int .i64 d.re, .int .i64 d.im, .int .i64 d.den]) := rangeAt_below (World.rangeAt_alloc Ho.out _) hb (by first | omega | (simp; done) | (simp <;> omega))
    have Hq : Hid (w5.rangeAt (w3.heap.size) 0 [.int .i64 d.re, .int .i64 d.im, .int .i64 d.den]) := rangeAt_below (World.rangeAt_alloc Hq.out _) hb (by first | omega | (simp; done) | (simp <;> omega))
    have Hn : Hid (w5.rangeAt w4.heap.size 0 [.int .i64 n.re, .int .i64 n.im, .int .i64 n.den]) := rangeAt_below (rangeAt_new _ _ _) hb (by first | omega | (simp; done) | (simp <;> omega))
    have hz5 := hb.size
    (try simp at hz5)
    clear hb
    have nA0 : w1.heap.size < w5.heap.size := by omega
    have nB0 : ¬ w1.heap.size = w5.heap.size := by omega
    have nC0 : ¬ w5.heap.size = w1.heap.size := by omega
    have nA1 : w2.heap.size < w5.heap.size := by omega
    have nB1 : ¬ w2.heap.size = w5.heap.size := by omega
    have nC1 : ¬ w5.heap.size = w2.heap.size := by omega
    have nA2 : w3.heap.size < w5.heap.size := by omega
    have nB2 : ¬ w3.heap.size = w5.heap.size := by omega
    have nC2 : ¬ w5.heap.size = w3.heap.size := by omega
    have nA3 : w4.heap.size < w5.heap.size := by omega
    have nB3 : ¬ w4.heap.size = w5.heap.size := by omega
    have nC3 : ¬ w5.heap.size = w4.heap.size := by omega
    have e := HE1.out
    subst e
    have zn_0 : w5.cell? ⟨w4.heap.size, 0, none⟩ = some (.int .i64 1) := by have := Hn.out 0 _ rfl; rw [Nat.zero_add] at this; exact this
    have zn_1 : w5.cell? ⟨w4.heap.size, 1, none⟩ = some (.int .i64 0) := by have := Hn.out 1 _ rfl; rw [Nat.zero_add] at this; exact this
    have zn_2 : w5.cell? ⟨w4.heap.size, 2, none⟩ = some (.int .i64 1) := by have := Hn.out 2 _ rfl; rw [Nat.zero_add] at this; exact this
    go_wp2_with fail
    go_ret
    exact ⟨rfl, (by (repeat' first | (with_reducible exact HB.out) | with_reducible refine setCells_below _ _ _ ?_ (by first | omega | (simp <;> omega)) | with_reducible refine Below.setCell ?_ (by show _ ≤ _; first | omega | (simp <;> omega) | simp) _ | with_reducible refine Below.alloc ?_ (by first | omega | (simp <;> omega)) _ | with_reducible apply Below.drew))⟩

set_option maxRecDepth 100000 in
theorem door_FnDet (os : Os) (args : Array Value) : laidMetH Tryd.prog Rows.fnDetRow.laid ((World.doorLaid Tryd.prog 43 os).forCall (fun _ _ => 0) ⟨#[], args, []⟩).memory :=
  laidMetH_of_parts3 (fuel := 8) (laidMet_of_run' 8 (by kernel_rfl) (by kernel_rfl)) (by kernel_rfl) (by kernel_rfl)
set_option maxRecDepth 100000 in
theorem lifted_FnDet (os : Os) (started : os.Started) (H : Type) (enc : TypeId × Value → H) :
    ReturnsInHanded {} Tryd.checked os 8 .any (fun w args => (Rows.fnDetSpec.pre enc Tryd.prog Tryd.f8 [] false w args ∧ laidMetH Tryd.prog Rows.fnDetRow.laid w) ∧ sizedMet enc Tryd.prog Tryd.f8 (OpenSpec.ofChange Rows.fnDetSpec) false w args) (Rows.fnDetSpec.post enc Tryd.prog Tryd.f8 false true false false) := by
  refine returnsInHanded_of_change_and (C := Tryd.checked) (X := fun w _ => laidMetH Tryd.prog Rows.fnDetRow.laid w) (fun _ _ _ hh h => h.of_heap hh) Tryd.own started (by kernel_rfl) Tryd.func8
    (ChangeSpec.witness_shaped (enc := enc) (C := Tryd.checked) (os := os) (X := fun w _ => laidMetH Tryd.prog Rows.fnDetRow.laid w) false (World.doorLaid Tryd.prog 43 os) #[.slice none 0 0] 8 rfl (World.shaped_of_RefB (by kernel_rfl) (by kernel_rfl)) (by kernel_rfl) (by kernel_rfl) (by kernel_rfl) (door_FnDet os _)) ?_
  intro W base args ds gs before hval0 hW _ _ hL _
  have hval : ∀ (j : Nat) t v, Tryd.f8.params[j]? = some t → args[j]? = some v → Value.okWide Tryd.prog W .any base t v := hval0
  have hW' := hW
  obtain ⟨p, q, hA0, hV, rfl, hfz, hnd⟩ := hW
  have hA : DataW.TrodAll enc Tryd.prog W 0 (fun _ => true) true Tryd.f8.params.toList args.toList ds p := hA0
  rw [Tryd.params8] at hA hval
  obtain ⟨v0, d0, rfl, rfl, h0⟩ := trodAll_one hA
  obtain ⟨g0, rfl⟩ := len1 (vars_len hV)
  have hG_same := gat_same hL (by decide) (by simp [Rows.fnDetRow, Rows.laid_loop_example_polarisedlight_impl_same])
  have h0k := h0
  obtain ⟨fuel, hf⟩ := h0
  clear hA0 hval0
  have hlt : ∀ x ∈ p, x.block < W.heap.size := fun x hx => by simpa using hW'.lt x (List.mem_append_left _ hx)
  obtain ⟨a0, len, cap, rfl⟩ := okWide_slice Tryd.underlying22 (hval 0 22 v0 rfl rfl)
  obtain ⟨hcap, HC⟩ := open_code hf hlt
  refine (walk_FnDet a0 len cap W hcap HC hG_same).mono fun e W' ⟨he, hb⟩ => ?_
  subst he
  refine ⟨_, rfl, _, _, _, [], p, q, hW', trodAll_mk1 (shut_bool Tryd.underlying4 _), trodAll_mk1 (Below.trod Tryd.laidOut (by kernel_rfl) (of_decide_eq_true (by kernel_rfl)) h0k hb (fun x hx => hlt x (by simp [hx]))), Below.trodVars Tryd.laidOut hb (by kernel_rfl) hV, hb.frame _, fun h => by cases h⟩
theorem said_FnDet : Rows.FnDetSaid :=
  OpenClaim.holds_of_wide 8 Tryd.f8 rfl rfl rfl rfl rfl rfl rfl ⟨rfl, rfl, rfl, rfl, rfl⟩ rfl rfl rfl rfl rfl (by kernel_rfl) Tryd.func8 (by kernel_rfl)
    (of_decide_eq_true (by kernel_rfl)) (by unfold Func.isWrapper; first | (rw [if_pos (by decide +kernel)]; kernel_rfl) | (rw [if_neg (by decide +kernel)]; exact ⟨rfl, rfl⟩))
    (fun os started H enc _ => lifted_FnDet os started H enc)
set_option maxRecDepth 100000 in
/-- THE STATEMENT: THE CARD. -/
theorem holds_FnDet : Rows.FnDetCardSaid :=
  Claim7.holds_tied_plain_at .later [] [.data] true (true, "3d2c88d957d06082902c58164e94ed0f70d9b698276363a5f755186a5af957fe") false
    said_FnDet (fun _ h => by cases h) (by kernel_rfl) (fun _ h => by cases h) fnDet_row_tie rfl ⟨rfl, rfl⟩ (by kernel_rfl) rfl
    (fun f fn hf hfn => by
      obtain rfl : f = 8 := Option.some.inj ((show Tryd.prog.funcNamed "loop.example/polarisedlight/laws.FnDet" = some 8 by kernel_rfl).symm.trans hf) |>.symm
      obtain rfl : fn = Tryd.f8 := (Option.some.inj (Tryd.func8.symm.trans hfn)).symm
      exact ⟨by kernel_rfl, fun j t ht => by
        rw [Tryd.params8] at ht
        have hm : t ∈ [22] := by simpa using Array.mem_of_getElem? ht
        have hall : ([22].all fun u => !Tryd.prog.wantsStandIn u) = true := by kernel_rfl
        exact (show Tryd.prog.wantsStandIn t = false by simpa using List.all_eq_true.1 hall t hm)⟩)
    (by kernel_rfl)
end Go.Proofs.YtcpdapfcbnhgaaaDoor
