/- Adjoints of products are products of adjoints; determinants of products are products of determinants. -/
import Derived.Test.YtcpdapfcbnhgaaaDW3
import Derived.Test.YtcpdapfcbnhgaaaQT
import Derived.Test.YtcpdapfcbnhgaaaNC
import Derived.Test.YtcpdapfcbnhgaaaP
import Derived.Test.YtcpdapfcbnhgaaaV
import Derived.Test.YtcpdapfcbnhgaaaEQ2
namespace Go.Proofs.Ytcpdapfcbnhgaaa
open Go.ChangeShapes Go.WideShapes Go.ChangeAt Go.RowKit Pol

set_option maxRecDepth 100000 in
set_option maxHeartbeats 40000000 in
theorem walk_FnMatTimes (a0 : Option Addr) (len cap : Nat) (w : World) (hcap : len ≤ cap) (HC : Code w.heap.size w a0 len) :
    Calls Try.prog 6 #[.slice a0 len cap] w fun e w' => e = .returned (.bool true) ∧ Below w.heap.size w w' := by
  by_cases hbig : 1048576 < len
  · have h1 : (1048576 : Int) < (len : Int) := by omega
    go_enter Try.func6, Try.ntmps6
    go_wp2
    go_ret
    exact ⟨rfl, Below.refl _ _⟩
  have h1 : ¬ (1048576 : Int) < (len : Int) := by omega
  go_enter Try.func6, Try.ntmps6
  go_wp2_with fail
  refine (DrawMatTimes_any a0 len cap _ hcap HC).mono ?_
  rintro e w1 ⟨a, b, rfl, hb⟩
  have HB := Lib.hid (show Below w.heap.size w w1 from hb)
  have hz1 := hb.size
  (try simp at hz1)
  clear hb
  cases hg : (mTm a b).2
  · skip
    have HG : Hid (mTm a b = (m4z, false)) := mTm_no hg
    go_wp2_with (first | ((with_reducible refine wpList_load_mid ?kl11 29 ?kl1x ?kl12 (w1.heap.size) 0 ?kl13 [.int .i64 a.a.re, .int .i64 a.a.im, .int .i64 a.a.den, .int .i64 a.b.re, .int .i64 a.b.im, .int .i64 a.b.den, .int .i64 a.c.re, .int .i64 a.c.im, .int .i64 a.c.den, .int .i64 a.d.re, .int .i64 a.d.im, .int .i64 a.d.den] ?kl1d ?kl14 ?kl15 ?kl16 ?kl17 ?kl18); (case kl12 => rfl); (case kl11 => rfl); (case kl13 => rfl); (case kl14 => (exact (World.rangeAt_alloc (rangeAt_new _ _ _) _))); (case kl15 => exact Try.underlying29); (case kl16 => rfl); (case kl17 => kernel_rfl)) | ((with_reducible refine wpList_load_mid ?kl21 29 ?kl2x ?kl22 (w1.heap.size + 1) 0 ?kl23 [.int .i64 b.a.re, .int .i64 b.a.im, .int .i64 b.a.den, .int .i64 b.b.re, .int .i64 b.b.im, .int .i64 b.b.den, .int .i64 b.c.re, .int .i64 b.c.im, .int .i64 b.c.den, .int .i64 b.d.re, .int .i64 b.d.im, .int .i64 b.d.den] ?kl2d ?kl24 ?kl25 ?kl26 ?kl27 ?kl28); (case kl22 => rfl); (case kl21 => rfl); (case kl23 => rfl); (case kl24 => (exact (rangeAt_new2 (by simp)))); (case kl25 => exact Try.underlying29); (case kl26 => rfl); (case kl27 => kernel_rfl)))
    refine (imtm_m a b _).mono ?_
    rintro e w2 ho
    rw [HG.out] at ho
    obtain ⟨rfl, hb⟩ : e = .returned (.tuple #[.agg #[.int .i64 m4z.a.re, .int .i64 m4z.a.im, .int .i64 m4z.a.den, .int .i64 m4z.b.re, .int .i64 m4z.b.im, .int .i64 m4z.b.den, .int .i64 m4z.c.re, .int .i64 m4z.c.im, .int .i64 m4z.c.den, .int .i64 m4z.d.re, .int .i64 m4z.d.im, .int .i64 m4z.d.den], .bool false]) ∧ Below _ _ _ := ho.fn
    clear ho
    have HB := Lib.hid (show Below w.heap.size w w2 from HB.out.trans ((show Below _ _ _ from (((Below.refl _ _).alloc (by omega) _).alloc (by first | omega | (simp; done) | (simp <;> omega)) _)).trans (hb.mono (by first | omega | (simp <;> omega)))))
    have Ha : Hid (w2.rangeAt w1.heap.size 0 [.int .i64 a.a.re, .int .i64 a.a.im, .int .i64 a.a.den, .int .i64 a.b.re, .int .i64 a.b.im, .int .i64 a.b.den, .int .i64 a.c.re, .int .i64 a.c.im, .int .i64 a.c.den, .int .i64 a.d.re, .int .i64 a.d.im, .int .i64 a.d.den]) := rangeAt_below (World.rangeAt_alloc (rangeAt_new _ _ _) _) hb (by first | omega | (simp; done) | (simp <;> omega))
    have Hb : Hid (w2.rangeAt (w1.heap.size + 1) 0 [.int .i64 b.a.re, .int .i64 b.a.im, .int .i64 b.a.den, .int .i64 b.b.re, .int .i64 b.b.im, .int .i64 b.b.den, .int .i64 b.c.re, .int .i64 b.c.im, .int .i64 b.c.den, .int .i64 b.d.re, .int .i64 b.d.im, .int .i64 b.d.den]) := rangeAt_below (rangeAt_new2 (by simp)) hb (by first | omega | (simp; done) | (simp <;> omega))
    have hz2 := hb.size
    (try simp at hz2)
    clear hb
    have nA0 : w1.heap.size < w2.heap.size := by omega
    have nB0 : ¬ w1.heap.size = w2.heap.size := by omega
    have nC0 : ¬ w2.heap.size = w1.heap.size := by omega
    have nA1 : w1.heap.size + 1 < w2.heap.size := by omega
    have nB1 : ¬ w1.heap.size + 1 = w2.heap.size := by omega
    have nC1 : ¬ w2.heap.size = w1.heap.size + 1 := by omega
    go_wp2_with (first | ((with_reducible refine wpList_load_mid ?kl31 29 ?kl3x ?kl32 (w1.heap.size) 0 ?kl33 [.int .i64 a.a.re, .int .i64 a.a.im, .int .i64 a.a.den, .int .i64 a.b.re, .int .i64 a.b.im, .int .i64 a.b.den, .int .i64 a.c.re, .int .i64 a.c.im, .int .i64 a.c.den, .int .i64 a.d.re, .int .i64 a.d.im, .int .i64 a.d.den] ?kl3d ?kl34 ?kl35 ?kl36 ?kl37 ?kl38); (case kl32 => rfl); (case kl31 => rfl); (case kl33 => rfl); (case kl34 => (exact (World.rangeAt_alloc Ha.out _))); (case kl35 => exact Try.underlying29); (case kl36 => rfl); (case kl37 => kernel_rfl)) | ((with_reducible refine wpList_load_mid ?kl41 29 ?kl4x ?kl42 (w1.heap.size + 1) 0 ?kl43 [.int .i64 b.a.re, .int .i64 b.a.im, .int .i64 b.a.den, .int .i64 b.b.re, .int .i64 b.b.im, .int .i64 b.b.den, .int .i64 b.c.re, .int .i64 b.c.im, .int .i64 b.c.den, .int .i64 b.d.re, .int .i64 b.d.im, .int .i64 b.d.den] ?kl4d ?kl44 ?kl45 ?kl46 ?kl47 ?kl48); (case kl42 => rfl); (case kl41 => rfl); (case kl43 => rfl); (case kl44 => (exact (World.rangeAt_alloc Hb.out _))); (case kl45 => exact Try.underlying29); (case kl46 => rfl); (case kl47 => kernel_rfl)))
    refine (smtm_any a b _).mono ?_
    rintro e w3 ho
    rw [HG.out] at ho
    obtain ⟨rfl, hb⟩ : e = .returned (.tuple #[.agg #[.int .i64 m4z.a.re, .int .i64 m4z.a.im, .int .i64 m4z.a.den, .int .i64 m4z.b.re, .int .i64 m4z.b.im, .int .i64 m4z.b.den, .int .i64 m4z.c.re, .int .i64 m4z.c.im, .int .i64 m4z.c.den, .int .i64 m4z.d.re, .int .i64 m4z.d.im, .int .i64 m4z.d.den], .bool false]) ∧ Below _ _ _ := ho.fn
    clear ho
    have HB := Lib.hid (show Below w.heap.size w w3 from HB.out.trans ((show Below _ _ _ from ((Below.refl _ _).alloc (by omega) _)).trans (hb.mono (by first | omega | (simp <;> omega)))))
    have Ha : Hid (w3.rangeAt (w1.heap.size) 0 [.int .i64 a.a.re, .int .i64 a.a.im, .int .i64 a.a.den, .int .i64 a.b.re, .int .i64 a.b.im, .int .i64 a.b.den, .int .i64 a.c.re, .int .i64 a.c.im, .int .i64 a.c.den, .int .i64 a.d.re, .int .i64 a.d.im, .int .i64 a.d.den]) := rangeAt_below (World.rangeAt_alloc Ha.out _) hb (by first | omega | (simp; done) | (simp <;> omega))
    have Hb : Hid (w3.rangeAt (w1.heap.size + 1) 0 [.int .i64 b.a.re, .int .i64 b.a.im, .int .i64 b.a.den, .int .i64 b.b.re, .int .i64 b.b.im, .int .i64 b.b.den, .int .i64 b.c.re, .int .i64 b.c.im, .int .i64 b.c.den, .int .i64 b.d.re, .int .i64 b.d.im, .int .i64 b.d.den]) := rangeAt_below (World.rangeAt_alloc Hb.out _) hb (by first | omega | (simp; done) | (simp <;> omega))
    have Ho : Hid (w3.rangeAt w2.heap.size 0 [.int .i64 m4z.a.re, .int .i64 m4z.a.im, .int .i64 m4z.a.den, .int .i64 m4z.b.re, .int .i64 m4z.b.im, .int .i64 m4z.b.den, .int .i64 m4z.c.re, .int .i64 m4z.c.im, .int .i64 m4z.c.den, .int .i64 m4z.d.re, .int .i64 m4z.d.im, .int .i64 m4z.d.den]) := rangeAt_below (rangeAt_new _ _ _) hb (by first | omega | (simp; done) | (simp <;> omega))
    have hz3 := hb.size
    (try simp at hz3)
    clear hb
    have nA0 : w1.heap.size < w3.heap.size := by omega
    have nB0 : ¬ w1.heap.size = w3.heap.size := by omega
    have nC0 : ¬ w3.heap.size = w1.heap.size := by omega
    have nA1 : w1.heap.size + 1 < w3.heap.size := by omega
    have nB1 : ¬ w1.heap.size + 1 = w3.heap.size := by omega
    have nC1 : ¬ w3.heap.size = w1.heap.size + 1 := by omega
    have nA2 : w2.heap.size < w3.heap.size := by omega
    have nB2 : ¬ w2.heap.size = w3.heap.size := by omega
    have nC2 : ¬ w3.heap.size = w2.heap.size := by omega
    have hEq1 : ∀ w, (Op.equalIn 10000 29 (.agg #[.int .i64 m4z.a.re, .int .i64 m4z.a.im, .int .i64 m4z.a.den, .int .i64 m4z.b.re, .int .i64 m4z.b.im, .int .i64 m4z.b.den, .int .i64 m4z.c.re, .int .i64 m4z.c.im, .int .i64 m4z.c.den, .int .i64 m4z.d.re, .int .i64 m4z.d.im, .int .i64 m4z.d.den]) (.agg #[.int .i64 m4z.a.re, .int .i64 m4z.a.im, .int .i64 m4z.a.den, .int .i64 m4z.b.re, .int .i64 m4z.b.im, .int .i64 m4z.b.den, .int .i64 m4z.c.re, .int .i64 m4z.c.im, .int .i64 m4z.c.den, .int .i64 m4z.d.re, .int .i64 m4z.d.im, .int .i64 m4z.d.den])).run Try.prog w = .ok true w := eqMat_run m4z
    have zo_0 : w3.cell? ⟨w2.heap.size, 0, none⟩ = some (.int .i64 m4z.a.re) := by have := Ho.out 0 _ rfl; rwa [Nat.zero_add] at this
    have zo_1 : w3.cell? ⟨w2.heap.size, 1, none⟩ = some (.int .i64 m4z.a.im) := by have := Ho.out 1 _ rfl; rwa [Nat.zero_add] at this
    have zo_2 : w3.cell? ⟨w2.heap.size, 2, none⟩ = some (.int .i64 m4z.a.den) := by have := Ho.out 2 _ rfl; rwa [Nat.zero_add] at this
    have zo_3 : w3.cell? ⟨w2.heap.size, 3, none⟩ = some (.int .i64 m4z.b.re) := by have := Ho.out 3 _ rfl; rwa [Nat.zero_add] at this
    have zo_4 : w3.cell? ⟨w2.heap.size, 4, none⟩ = some (.int .i64 m4z.b.im) := by have := Ho.out 4 _ rfl; rwa [Nat.zero_add] at this
    have zo_5 : w3.cell? ⟨w2.heap.size, 5, none⟩ = some (.int .i64 m4z.b.den) := by have := Ho.out 5 _ rfl; rwa [Nat.zero_add] at this
    have zo_6 : w3.cell? ⟨w2.heap.size, 6, none⟩ = some (.int .i64 m4z.c.re) := by have := Ho.out 6 _ rfl; rwa [Nat.zero_add] at this
    have zo_7 : w3.cell? ⟨w2.heap.size, 7, none⟩ = some (.int .i64 m4z.c.im) := by have := Ho.out 7 _ rfl; rwa [Nat.zero_add] at this
    have zo_8 : w3.cell? ⟨w2.heap.size, 8, none⟩ = some (.int .i64 m4z.c.den) := by have := Ho.out 8 _ rfl; rwa [Nat.zero_add] at this
    have zo_9 : w3.cell? ⟨w2.heap.size, 9, none⟩ = some (.int .i64 m4z.d.re) := by have := Ho.out 9 _ rfl; rwa [Nat.zero_add] at this
    have zo_10 : w3.cell? ⟨w2.heap.size, 10, none⟩ = some (.int .i64 m4z.d.im) := by have := Ho.out 10 _ rfl; rwa [Nat.zero_add] at this
    have zo_11 : w3.cell? ⟨w2.heap.size, 11, none⟩ = some (.int .i64 m4z.d.den) := by have := Ho.out 11 _ rfl; rwa [Nat.zero_add] at this
    go_wp2_with fail
    go_ret
    exact ⟨rfl, (by (repeat' first | (with_reducible exact HB.out) | with_reducible refine setCells_below _ _ _ ?_ (by first | omega | (simp <;> omega)) | with_reducible refine Below.setCell ?_ (by show _ ≤ _; first | omega | (simp <;> omega) | simp) _ | with_reducible refine Below.alloc ?_ (by first | omega | (simp <;> omega)) _ | with_reducible apply Below.drew))⟩
  · skip
    obtain ⟨m, hm⟩ : ∃ m, m = (mTm a b).1 := ⟨_, rfl⟩
    have hG : mTm a b = (m, true) := by rw [hm, ← hg]
    have hp := mTm_parts hG
    have HU : Hid (gAdj a = (mC a, true)) := gAdj_y hp.1
    have HV : Hid (gAdj b = (mC b, true)) := gAdj_y hp.2.1
    have HW : Hid (gAdj m = (mC m, true)) := gAdj_y (mTm_v hG)
    have hadj := fun x => @law_adj a b m x hG
    have hdet := fun k l mm n => @law_det a b m k l mm n hG
    have HG := Lib.hid hG
    clear hp hG hm hg
    obtain ⟨u, hu⟩ : ∃ u, u = mC a := ⟨_, rfl⟩
    obtain ⟨v, hv⟩ : ∃ v, v = mC b := ⟨_, rfl⟩
    obtain ⟨W, hW⟩ : ∃ W, W = mC m := ⟨_, rfl⟩
    rw [← hu] at HU hadj
    rw [← hv] at HV hadj
    rw [← hW] at HW hadj
    clear hu hv hW
    obtain ⟨X, s, hX⟩ : ∃ X s, mTm v u = (X, s) := ⟨_, _, rfl⟩
    have hXW : s = true → X = W := fun hs => hadj X (by rw [hX, hs])
    have HX := Lib.hid hX
    clear hX hadj
    obtain ⟨k, t, hk⟩ : ∃ k t, gDet a = (k, t) := ⟨_, _, rfl⟩
    obtain ⟨l, y, hl⟩ : ∃ l y, gDet b = (l, y) := ⟨_, _, rfl⟩
    obtain ⟨d, z, hd⟩ : ∃ d z, gDet m = (d, z) := ⟨_, _, rfl⟩
    obtain ⟨n, o1, hn⟩ : ∃ n o1, fTimes k l = (n, o1) := ⟨_, _, rfl⟩
    have hdn : t = true → y = true → z = true → o1 = true → d = n := fun h1 h2 h3 h4 => hdet k l d n (by rw [hk, h1]) (by rw [hl, h2]) (by rw [hd, h3]) (by rw [hn, h4])
    have HK := Lib.hid hk
    have HL := Lib.hid hl
    have HD := Lib.hid hd
    have HN := Lib.hid hn
    clear hk hl hd hn hdet
    have HXW := Lib.hid hXW
    have HDN := Lib.hid hdn
    clear hXW hdn
    go_wp2_with (first | ((with_reducible refine wpList_load_mid ?kl51 29 ?kl5x ?kl52 (w1.heap.size) 0 ?kl53 [.int .i64 a.a.re, .int .i64 a.a.im, .int .i64 a.a.den, .int .i64 a.b.re, .int .i64 a.b.im, .int .i64 a.b.den, .int .i64 a.c.re, .int .i64 a.c.im, .int .i64 a.c.den, .int .i64 a.d.re, .int .i64 a.d.im, .int .i64 a.d.den] ?kl5d ?kl54 ?kl55 ?kl56 ?kl57 ?kl58); (case kl52 => rfl); (case kl51 => rfl); (case kl53 => rfl); (case kl54 => (exact (World.rangeAt_alloc (rangeAt_new _ _ _) _))); (case kl55 => exact Try.underlying29); (case kl56 => rfl); (case kl57 => kernel_rfl)) | ((with_reducible refine wpList_load_mid ?kl61 29 ?kl6x ?kl62 (w1.heap.size + 1) 0 ?kl63 [.int .i64 b.a.re, .int .i64 b.a.im, .int .i64 b.a.den, .int .i64 b.b.re, .int .i64 b.b.im, .int .i64 b.b.den, .int .i64 b.c.re, .int .i64 b.c.im, .int .i64 b.c.den, .int .i64 b.d.re, .int .i64 b.d.im, .int .i64 b.d.den] ?kl6d ?kl64 ?kl65 ?kl66 ?kl67 ?kl68); (case kl62 => rfl); (case kl61 => rfl); (case kl63 => rfl); (case kl64 => (exact (rangeAt_new2 (by simp)))); (case kl65 => exact Try.underlying29); (case kl66 => rfl); (case kl67 => kernel_rfl)))
    refine (imtm_m a b _).mono ?_
    rintro e w2 ho
    rw [HG.out] at ho
    obtain ⟨rfl, hb⟩ : e = .returned (.tuple #[.agg #[.int .i64 m.a.re, .int .i64 m.a.im, .int .i64 m.a.den, .int .i64 m.b.re, .int .i64 m.b.im, .int .i64 m.b.den, .int .i64 m.c.re, .int .i64 m.c.im, .int .i64 m.c.den, .int .i64 m.d.re, .int .i64 m.d.im, .int .i64 m.d.den], .bool true]) ∧ Below _ _ _ := ho.fn
    clear ho
    have HB := Lib.hid (show Below w.heap.size w w2 from HB.out.trans ((show Below _ _ _ from (((Below.refl _ _).alloc (by omega) _).alloc (by first | omega | (simp; done) | (simp <;> omega)) _)).trans (hb.mono (by first | omega | (simp <;> omega)))))
    have Ha : Hid (w2.rangeAt w1.heap.size 0 [.int .i64 a.a.re, .int .i64 a.a.im, .int .i64 a.a.den, .int .i64 a.b.re, .int .i64 a.b.im, .int .i64 a.b.den, .int .i64 a.c.re, .int .i64 a.c.im, .int .i64 a.c.den, .int .i64 a.d.re, .int .i64 a.d.im, .int .i64 a.d.den]) := rangeAt_below (World.rangeAt_alloc (rangeAt_new _ _ _) _) hb (by first | omega | (simp; done) | (simp <;> omega))
    have Hb : Hid (w2.rangeAt (w1.heap.size + 1) 0 [.int .i64 b.a.re, .int .i64 b.a.im, .int .i64 b.a.den, .int .i64 b.b.re, .int .i64 b.b.im, .int .i64 b.b.den, .int .i64 b.c.re, .int .i64 b.c.im, .int .i64 b.c.den, .int .i64 b.d.re, .int .i64 b.d.im, .int .i64 b.d.den]) := rangeAt_below (rangeAt_new2 (by simp)) hb (by first | omega | (simp; done) | (simp <;> omega))
    have hz2 := hb.size
    (try simp at hz2)
    clear hb
    have nA0 : w1.heap.size < w2.heap.size := by omega
    have nB0 : ¬ w1.heap.size = w2.heap.size := by omega
    have nC0 : ¬ w2.heap.size = w1.heap.size := by omega
    have nA1 : w1.heap.size + 1 < w2.heap.size := by omega
    have nB1 : ¬ w1.heap.size + 1 = w2.heap.size := by omega
    have nC1 : ¬ w2.heap.size = w1.heap.size + 1 := by omega
    go_wp2_with (first | ((with_reducible refine wpList_load_mid ?kl71 29 ?kl7x ?kl72 (w1.heap.size) 0 ?kl73 [.int .i64 a.a.re, .int .i64 a.a.im, .int .i64 a.a.den, .int .i64 a.b.re, .int .i64 a.b.im, .int .i64 a.b.den, .int .i64 a.c.re, .int .i64 a.c.im, .int .i64 a.c.den, .int .i64 a.d.re, .int .i64 a.d.im, .int .i64 a.d.den] ?kl7d ?kl74 ?kl75 ?kl76 ?kl77 ?kl78); (case kl72 => rfl); (case kl71 => rfl); (case kl73 => rfl); (case kl74 => (exact (World.rangeAt_alloc Ha.out _))); (case kl75 => exact Try.underlying29); (case kl76 => rfl); (case kl77 => kernel_rfl)) | ((with_reducible refine wpList_load_mid ?kl81 29 ?kl8x ?kl82 (w1.heap.size + 1) 0 ?kl83 [.int .i64 b.a.re, .int .i64 b.a.im, .int .i64 b.a.den, .int .i64 b.b.re, .int .i64 b.b.im, .int .i64 b.b.den, .int .i64 b.c.re, .int .i64 b.c.im, .int .i64 b.c.den, .int .i64 b.d.re, .int .i64 b.d.im, .int .i64 b.d.den] ?kl8d ?kl84 ?kl85 ?kl86 ?kl87 ?kl88); (case kl82 => rfl); (case kl81 => rfl); (case kl83 => rfl); (case kl84 => (exact (World.rangeAt_alloc Hb.out _))); (case kl85 => exact Try.underlying29); (case kl86 => rfl); (case kl87 => kernel_rfl)))
    refine (smtm_any a b _).mono ?_
    rintro e w3 ho
    rw [HG.out] at ho
    obtain ⟨rfl, hb⟩ : e = .returned (.tuple #[.agg #[.int .i64 m.a.re, .int .i64 m.a.im, .int .i64 m.a.den, .int .i64 m.b.re, .int .i64 m.b.im, .int .i64 m.b.den, .int .i64 m.c.re, .int .i64 m.c.im, .int .i64 m.c.den, .int .i64 m.d.re, .int .i64 m.d.im, .int .i64 m.d.den], .bool true]) ∧ Below _ _ _ := ho.fn
    clear ho
    have HB := Lib.hid (show Below w.heap.size w w3 from HB.out.trans ((show Below _ _ _ from ((Below.refl _ _).alloc (by omega) _)).trans (hb.mono (by first | omega | (simp <;> omega)))))
    have Ha : Hid (w3.rangeAt (w1.heap.size) 0 [.int .i64 a.a.re, .int .i64 a.a.im, .int .i64 a.a.den, .int .i64 a.b.re, .int .i64 a.b.im, .int .i64 a.b.den, .int .i64 a.c.re, .int .i64 a.c.im, .int .i64 a.c.den, .int .i64 a.d.re, .int .i64 a.d.im, .int .i64 a.d.den]) := rangeAt_below (World.rangeAt_alloc Ha.out _) hb (by first | omega | (simp; done) | (simp <;> omega))
    have Hb : Hid (w3.rangeAt (w1.heap.size + 1) 0 [.int .i64 b.a.re, .int .i64 b.a.im, .int .i64 b.a.den, .int .i64 b.b.re, .int .i64 b.b.im, .int .i64 b.b.den, .int .i64 b.c.re, .int .i64 b.c.im, .int .i64 b.c.den, .int .i64 b.d.re, .int .i64 b.d.im, .int .i64 b.d.den]) := rangeAt_below (World.rangeAt_alloc Hb.out _) hb (by first | omega | (simp; done) | (simp <;> omega))
    have Ho : Hid (w3.rangeAt w2.heap.size 0 [.int .i64 m.a.re, .int .i64 m.a.im, .int .i64 m.a.den, .int .i64 m.b.re, .int .i64 m.b.im, .int .i64 m.b.den, .int .i64 m.c.re, .int .i64 m.c.im, .int .i64 m.c.den, .int .i64 m.d.re, .int .i64 m.d.im, .int .i64 m.d.den]) := rangeAt_below (rangeAt_new _ _ _) hb (by first | omega | (simp; done) | (simp <;> omega))
    have hz3 := hb.size
    (try simp at hz3)
    clear hb
    have nA0 : w1.heap.size < w3.heap.size := by omega
    have nB0 : ¬ w1.heap.size = w3.heap.size := by omega
    have nC0 : ¬ w3.heap.size = w1.heap.size := by omega
    have nA1 : w1.heap.size + 1 < w3.heap.size := by omega
    have nB1 : ¬ w1.heap.size + 1 = w3.heap.size := by omega
    have nC1 : ¬ w3.heap.size = w1.heap.size + 1 := by omega
    have nA2 : w2.heap.size < w3.heap.size := by omega
    have nB2 : ¬ w2.heap.size = w3.heap.size := by omega
    have nC2 : ¬ w3.heap.size = w2.heap.size := by omega
    have hEq1 : ∀ w, (Op.equalIn 10000 29 (.agg #[.int .i64 m.a.re, .int .i64 m.a.im, .int .i64 m.a.den, .int .i64 m.b.re, .int .i64 m.b.im, .int .i64 m.b.den, .int .i64 m.c.re, .int .i64 m.c.im, .int .i64 m.c.den, .int .i64 m.d.re, .int .i64 m.d.im, .int .i64 m.d.den]) (.agg #[.int .i64 m.a.re, .int .i64 m.a.im, .int .i64 m.a.den, .int .i64 m.b.re, .int .i64 m.b.im, .int .i64 m.b.den, .int .i64 m.c.re, .int .i64 m.c.im, .int .i64 m.c.den, .int .i64 m.d.re, .int .i64 m.d.im, .int .i64 m.d.den])).run Try.prog w = .ok true w := eqMat_run m
    have zo_0 : w3.cell? ⟨w2.heap.size, 0, none⟩ = some (.int .i64 m.a.re) := by have := Ho.out 0 _ rfl; rwa [Nat.zero_add] at this
    have zo_1 : w3.cell? ⟨w2.heap.size, 1, none⟩ = some (.int .i64 m.a.im) := by have := Ho.out 1 _ rfl; rwa [Nat.zero_add] at this
    have zo_2 : w3.cell? ⟨w2.heap.size, 2, none⟩ = some (.int .i64 m.a.den) := by have := Ho.out 2 _ rfl; rwa [Nat.zero_add] at this
    have zo_3 : w3.cell? ⟨w2.heap.size, 3, none⟩ = some (.int .i64 m.b.re) := by have := Ho.out 3 _ rfl; rwa [Nat.zero_add] at this
    have zo_4 : w3.cell? ⟨w2.heap.size, 4, none⟩ = some (.int .i64 m.b.im) := by have := Ho.out 4 _ rfl; rwa [Nat.zero_add] at this
    have zo_5 : w3.cell? ⟨w2.heap.size, 5, none⟩ = some (.int .i64 m.b.den) := by have := Ho.out 5 _ rfl; rwa [Nat.zero_add] at this
    have zo_6 : w3.cell? ⟨w2.heap.size, 6, none⟩ = some (.int .i64 m.c.re) := by have := Ho.out 6 _ rfl; rwa [Nat.zero_add] at this
    have zo_7 : w3.cell? ⟨w2.heap.size, 7, none⟩ = some (.int .i64 m.c.im) := by have := Ho.out 7 _ rfl; rwa [Nat.zero_add] at this
    have zo_8 : w3.cell? ⟨w2.heap.size, 8, none⟩ = some (.int .i64 m.c.den) := by have := Ho.out 8 _ rfl; rwa [Nat.zero_add] at this
    have zo_9 : w3.cell? ⟨w2.heap.size, 9, none⟩ = some (.int .i64 m.d.re) := by have := Ho.out 9 _ rfl; rwa [Nat.zero_add] at this
    have zo_10 : w3.cell? ⟨w2.heap.size, 10, none⟩ = some (.int .i64 m.d.im) := by have := Ho.out 10 _ rfl; rwa [Nat.zero_add] at this
    have zo_11 : w3.cell? ⟨w2.heap.size, 11, none⟩ = some (.int .i64 m.d.den) := by have := Ho.out 11 _ rfl; rwa [Nat.zero_add] at this
    go_wp2_with (first | ((with_reducible refine wpList_load_mid ?kl91 29 ?kl9x ?kl92 (w1.heap.size) 0 ?kl93 [.int .i64 a.a.re, .int .i64 a.a.im, .int .i64 a.a.den, .int .i64 a.b.re, .int .i64 a.b.im, .int .i64 a.b.den, .int .i64 a.c.re, .int .i64 a.c.im, .int .i64 a.c.den, .int .i64 a.d.re, .int .i64 a.d.im, .int .i64 a.d.den] ?kl9d ?kl94 ?kl95 ?kl96 ?kl97 ?kl98); (case kl92 => rfl); (case kl91 => rfl); (case kl93 => rfl); (case kl94 => (exact (World.rangeAt_alloc Ha.out _))); (case kl95 => exact Try.underlying29); (case kl96 => rfl); (case kl97 => kernel_rfl)))
    refine (imatadj_any a _).mono ?_
    rintro e w4 ho
    rw [HU.out] at ho
    obtain ⟨rfl, hb⟩ : e = .returned (.tuple #[.agg #[.int .i64 u.a.re, .int .i64 u.a.im, .int .i64 u.a.den, .int .i64 u.b.re, .int .i64 u.b.im, .int .i64 u.b.den, .int .i64 u.c.re, .int .i64 u.c.im, .int .i64 u.c.den, .int .i64 u.d.re, .int .i64 u.d.im, .int .i64 u.d.den], .bool true]) ∧ Below _ _ _ := ho.fn
    clear ho
    have HB := Lib.hid (show Below w.heap.size w w4 from HB.out.trans ((show Below _ _ _ from ((Below.refl _ _).alloc (by omega) _)).trans (hb.mono (by first | omega | (simp <;> omega)))))
    have Ha : Hid (w4.rangeAt (w1.heap.size) 0 [.int .i64 a.a.re, .int .i64 a.a.im, .int .i64 a.a.den, .int .i64 a.b.re, .int .i64 a.b.im, .int .i64 a.b.den, .int .i64 a.c.re, .int .i64 a.c.im, .int .i64 a.c.den, .int .i64 a.d.re, .int .i64 a.d.im, .int .i64 a.d.den]) := rangeAt_below (World.rangeAt_alloc Ha.out _) hb (by first | omega | (simp; done) | (simp <;> omega))
    have Hb : Hid (w4.rangeAt (w1.heap.size + 1) 0 [.int .i64 b.a.re, .int .i64 b.a.im, .int .i64 b.a.den, .int .i64 b.b.re, .int .i64 b.b.im, .int .i64 b.b.den, .int .i64 b.c.re, .int .i64 b.c.im, .int .i64 b.c.den, .int .i64 b.d.re, .int .i64 b.d.im, .int .i64 b.d.den]) := rangeAt_below (World.rangeAt_alloc Hb.out _) hb (by first | omega | (simp; done) | (simp <;> omega))
    have Ho : Hid (w4.rangeAt (w2.heap.size) 0 [.int .i64 m.a.re, .int .i64 m.a.im, .int .i64 m.a.den, .int .i64 m.b.re, .int .i64 m.b.im, .int .i64 m.b.den, .int .i64 m.c.re, .int .i64 m.c.im, .int .i64 m.c.den, .int .i64 m.d.re, .int .i64 m.d.im, .int .i64 m.d.den]) := rangeAt_below (World.rangeAt_alloc Ho.out _) hb (by first | omega | (simp; done) | (simp <;> omega))
    have Hq : Hid (w4.rangeAt w3.heap.size 0 [.int .i64 m.a.re, .int .i64 m.a.im, .int .i64 m.a.den, .int .i64 m.b.re, .int .i64 m.b.im, .int .i64 m.b.den, .int .i64 m.c.re, .int .i64 m.c.im, .int .i64 m.c.den, .int .i64 m.d.re, .int .i64 m.d.im, .int .i64 m.d.den]) := rangeAt_below (rangeAt_new _ _ _) hb (by first | omega | (simp; done) | (simp <;> omega))
    have hz4 := hb.size
    (try simp at hz4)
    clear hb
    have nA0 : w1.heap.size < w4.heap.size := by omega
    have nB0 : ¬ w1.heap.size = w4.heap.size := by omega
    have nC0 : ¬ w4.heap.size = w1.heap.size := by omega
    have nA1 : w1.heap.size + 1 < w4.heap.size := by omega
    have nB1 : ¬ w1.heap.size + 1 = w4.heap.size := by omega
    have nC1 : ¬ w4.heap.size = w1.heap.size + 1 := by omega
    have nA2 : w2.heap.size < w4.heap.size := by omega
    have nB2 : ¬ w2.heap.size = w4.heap.size := by omega
    have nC2 : ¬ w4.heap.size = w2.heap.size := by omega
    have nA3 : w3.heap.size < w4.heap.size := by omega
    have nB3 : ¬ w3.heap.size = w4.heap.size := by omega
    have nC3 : ¬ w4.heap.size = w3.heap.size := by omega
    go_wp2_with (first | ((with_reducible refine wpList_load_mid ?kl101 29 ?kl10x ?kl102 (w1.heap.size + 1) 0 ?kl103 [.int .i64 b.a.re, .int .i64 b.a.im, .int .i64 b.a.den, .int .i64 b.b.re, .int .i64 b.b.im, .int .i64 b.b.den, .int .i64 b.c.re, .int .i64 b.c.im, .int .i64 b.c.den, .int .i64 b.d.re, .int .i64 b.d.im, .int .i64 b.d.den] ?kl10d ?kl104 ?kl105 ?kl106 ?kl107 ?kl108); (case kl102 => rfl); (case kl101 => rfl); (case kl103 => rfl); (case kl104 => (exact (World.rangeAt_alloc Hb.out _))); (case kl105 => exact Try.underlying29); (case kl106 => rfl); (case kl107 => kernel_rfl)))
    refine (imatadj_any b _).mono ?_
    rintro e w5 ho
    rw [HV.out] at ho
    obtain ⟨rfl, hb⟩ : e = .returned (.tuple #[.agg #[.int .i64 v.a.re, .int .i64 v.a.im, .int .i64 v.a.den, .int .i64 v.b.re, .int .i64 v.b.im, .int .i64 v.b.den, .int .i64 v.c.re, .int .i64 v.c.im, .int .i64 v.c.den, .int .i64 v.d.re, .int .i64 v.d.im, .int .i64 v.d.den], .bool true]) ∧ Below _ _ _ := ho.fn
    clear ho
    have HB := Lib.hid (show Below w.heap.size w w5 from HB.out.trans ((show Below _ _ _ from ((Below.refl _ _).alloc (by omega) _)).trans (hb.mono (by first | omega | (simp <;> omega)))))
    have Ha : Hid (w5.rangeAt (w1.heap.size) 0 [.int .i64 a.a.re, .int .i64 a.a.im, .int .i64 a.a.den, .int .i64 a.b.re, .int .i64 a.b.im, .int .i64 a.b.den, .int .i64 a.c.re, .int .i64 a.c.im, .int .i64 a.c.den, .int .i64 a.d.re, .int .i64 a.d.im, .int .i64 a.d.den]) := rangeAt_below (World.rangeAt_alloc Ha.out _) hb (by first | omega | (simp; done) | (simp <;> omega))
    have Hb : Hid (w5.rangeAt (w1.heap.size + 1) 0 [.int .i64 b.a.re, .int .i64 b.a.im, .int .i64 b.a.den, .int .i64 b.b.re, .int .i64 b.b.im, .int .i64 b.b.den, .int .i64 b.c.re, .int .i64 b.c.im, .int .i64 b.c.den, .int .i64 b.d.re, .int .i64 b.d.im, .int .i64 b.d.den]) := rangeAt_below (World.rangeAt_alloc Hb.out _) hb (by first | omega | (simp; done) | (simp <;> omega))
    have Ho : Hid (w5.rangeAt (w2.heap.size) 0 [.int .i64 m.a.re, .int .i64 m.a.im, .int .i64 m.a.den, .int .i64 m.b.re, .int .i64 m.b.im, .int .i64 m.b.den, .int .i64 m.c.re, .int .i64 m.c.im, .int .i64 m.c.den, .int .i64 m.d.re, .int .i64 m.d.im, .int .i64 m.d.den]) := rangeAt_below (World.rangeAt_alloc Ho.out _) hb (by first | omega | (simp; done) | (simp <;> omega))
    have Hq : Hid (w5.rangeAt (w3.heap.size) 0 [.int .i64 m.a.re, .int .i64 m.a.im, .int .i64 m.a.den, .int .i64 m.b.re, .int .i64 m.b.im, .int .i64 m.b.den, .int .i64 m.c.re, .int .i64 m.c.im, .int .i64 m.c.den, .int .i64 m.d.re, .int .i64 m.d.im, .int .i64 m.d.den]) := rangeAt_below (World.rangeAt_alloc Hq.out _) hb (by first | omega | (simp; done) | (simp <;> omega))
    have Hu : Hid (w5.rangeAt w4.heap.size 0 [.int .i64 u.a.re, .int .i64 u.a.im, .int .i64 u.a.den, .int .i64 u.b.re, .int .i64 u.b.im, .int .i64 u.b.den, .int .i64 u.c.re, .int .i64 u.c.im, .int .i64 u.c.den, .int .i64 u.d.re, .int .i64 u.d.im, .int .i64 u.d.den]) := rangeAt_below (rangeAt_new _ _ _) hb (by first | omega | (simp; done) | (simp <;> omega))
    have hz5 := hb.size
    (try simp at hz5)
    clear hb
    have nA0 : w1.heap.size < w5.heap.size := by omega
    have nB0 : ¬ w1.heap.size = w5.heap.size := by omega
    have nC0 : ¬ w5.heap.size = w1.heap.size := by omega
    have nA1 : w1.heap.size + 1 < w5.heap.size := by omega
    have nB1 : ¬ w1.heap.size + 1 = w5.heap.size := by omega
    have nC1 : ¬ w5.heap.size = w1.heap.size + 1 := by omega
    have nA2 : w2.heap.size < w5.heap.size := by omega
    have nB2 : ¬ w2.heap.size = w5.heap.size := by omega
    have nC2 : ¬ w5.heap.size = w2.heap.size := by omega
    have nA3 : w3.heap.size < w5.heap.size := by omega
    have nB3 : ¬ w3.heap.size = w5.heap.size := by omega
    have nC3 : ¬ w5.heap.size = w3.heap.size := by omega
    have nA4 : w4.heap.size < w5.heap.size := by omega
    have nB4 : ¬ w4.heap.size = w5.heap.size := by omega
    have nC4 : ¬ w5.heap.size = w4.heap.size := by omega
    go_wp2_with (first | ((with_reducible refine wpList_load_mid ?kl111 29 ?kl11x ?kl112 (w2.heap.size) 0 ?kl113 [.int .i64 m.a.re, .int .i64 m.a.im, .int .i64 m.a.den, .int .i64 m.b.re, .int .i64 m.b.im, .int .i64 m.b.den, .int .i64 m.c.re, .int .i64 m.c.im, .int .i64 m.c.den, .int .i64 m.d.re, .int .i64 m.d.im, .int .i64 m.d.den] ?kl11d ?kl114 ?kl115 ?kl116 ?kl117 ?kl118); (case kl112 => rfl); (case kl111 => rfl); (case kl113 => rfl); (case kl114 => (exact (World.rangeAt_alloc Ho.out _))); (case kl115 => exact Try.underlying29); (case kl116 => rfl); (case kl117 => kernel_rfl)))
    refine (imatadj_any m _).mono ?_
    rintro e w6 ho
    rw [HW.out] at ho
    obtain ⟨rfl, hb⟩ : e = .returned (.tuple #[.agg #[.int .i64 W.a.re, .int .i64 W.a.im, .int .i64 W.a.den, .int .i64 W.b.re, .int .i64 W.b.im, .int .i64 W.b.den, .int .i64 W.c.re, .int .i64 W.c.im, .int .i64 W.c.den, .int .i64 W.d.re, .int .i64 W.d.im, .int .i64 W.d.den], .bool true]) ∧ Below _ _ _ := ho.fn
    clear ho
    have HB := Lib.hid (show Below w.heap.size w w6 from HB.out.trans ((show Below _ _ _ from ((Below.refl _ _).alloc (by omega) _)).trans (hb.mono (by first | omega | (simp <;> omega)))))
    have Ha : Hid (w6.rangeAt (w1.heap.size) 0 [.int .i64 a.a.re, .int .i64 a.a.im, .int .i64 a.a.den, .int .i64 a.b.re, .int .i64 a.b.im, .int .i64 a.b.den, .int .i64 a.c.re, .int .i64 a.c.im, .int .i64 a.c.den, .int .i64 a.d.re, .int .i64 a.d.im, .int .i64 a.d.den]) := rangeAt_below (World.rangeAt_alloc Ha.out _) hb (by first | omega | (simp; done) | (simp <;> omega))
    have Hb : Hid (w6.rangeAt (w1.heap.size + 1) 0 [.int .i64 b.a.re, .int .i64 b.a.im, .int .i64 b.a.den, .int .i64 b.b.re, .int .i64 b.b.im, .int .i64 b.b.den, .int .i64 b.c.re, .int .i64 b.c.im, .int .i64 b.c.den, .int .i64 b.d.re, .int .i64 b.d.im, .int .i64 b.d.den]) := rangeAt_below (World.rangeAt_alloc Hb.out _) hb (by first | omega | (simp; done) | (simp <;> omega))
    have Ho : Hid (w6.rangeAt (w2.heap.size) 0 [.int .i64 m.a.re, .int .i64 m.a.im, .int .i64 m.a.den, .int .i64 m.b.re, .int .i64 m.b.im, .int .i64 m.b.den, .int .i64 m.c.re, .int .i64 m.c.im, .int .i64 m.c.den, .int .i64 m.d.re, .int .i64 m.d.im, .int .i64 m.d.den]) := rangeAt_below (World.rangeAt_alloc Ho.out _) hb (by first | omega | (simp; done) | (simp <;> omega))
    have Hq : Hid (w6.rangeAt (w3.heap.size) 0 [.int .i64 m.a.re, .int .i64 m.a.im, .int .i64 m.a.den, .int .i64 m.b.re, .int .i64 m.b.im, .int .i64 m.b.den, .int .i64 m.c.re, .int .i64 m.c.im, .int .i64 m.c.den, .int .i64 m.d.re, .int .i64 m.d.im, .int .i64 m.d.den]) := rangeAt_below (World.rangeAt_alloc Hq.out _) hb (by first | omega | (simp; done) | (simp <;> omega))
    have Hu : Hid (w6.rangeAt (w4.heap.size) 0 [.int .i64 u.a.re, .int .i64 u.a.im, .int .i64 u.a.den, .int .i64 u.b.re, .int .i64 u.b.im, .int .i64 u.b.den, .int .i64 u.c.re, .int .i64 u.c.im, .int .i64 u.c.den, .int .i64 u.d.re, .int .i64 u.d.im, .int .i64 u.d.den]) := rangeAt_below (World.rangeAt_alloc Hu.out _) hb (by first | omega | (simp; done) | (simp <;> omega))
    have Hv : Hid (w6.rangeAt w5.heap.size 0 [.int .i64 v.a.re, .int .i64 v.a.im, .int .i64 v.a.den, .int .i64 v.b.re, .int .i64 v.b.im, .int .i64 v.b.den, .int .i64 v.c.re, .int .i64 v.c.im, .int .i64 v.c.den, .int .i64 v.d.re, .int .i64 v.d.im, .int .i64 v.d.den]) := rangeAt_below (rangeAt_new _ _ _) hb (by first | omega | (simp; done) | (simp <;> omega))
    have hz6 := hb.size
    (try simp at hz6)
    clear hb
    have nA0 : w1.heap.size < w6.heap.size := by omega
    have nB0 : ¬ w1.heap.size = w6.heap.size := by omega
    have nC0 : ¬ w6.heap.size = w1.heap.size := by omega
    have nA1 : w1.heap.size + 1 < w6.heap.size := by omega
    have nB1 : ¬ w1.heap.size + 1 = w6.heap.size := by omega
    have nC1 : ¬ w6.heap.size = w1.heap.size + 1 := by omega
    have nA2 : w2.heap.size < w6.heap.size := by omega
    have nB2 : ¬ w2.heap.size = w6.heap.size := by omega
    have nC2 : ¬ w6.heap.size = w2.heap.size := by omega
    have nA3 : w3.heap.size < w6.heap.size := by omega
    have nB3 : ¬ w3.heap.size = w6.heap.size := by omega
    have nC3 : ¬ w6.heap.size = w3.heap.size := by omega
    have nA4 : w4.heap.size < w6.heap.size := by omega
    have nB4 : ¬ w4.heap.size = w6.heap.size := by omega
    have nC4 : ¬ w6.heap.size = w4.heap.size := by omega
    have nA5 : w5.heap.size < w6.heap.size := by omega
    have nB5 : ¬ w5.heap.size = w6.heap.size := by omega
    have nC5 : ¬ w6.heap.size = w5.heap.size := by omega
    go_wp2_with (first | ((with_reducible refine wpList_load_mid ?kl121 29 ?kl12x ?kl122 (w5.heap.size) 0 ?kl123 [.int .i64 v.a.re, .int .i64 v.a.im, .int .i64 v.a.den, .int .i64 v.b.re, .int .i64 v.b.im, .int .i64 v.b.den, .int .i64 v.c.re, .int .i64 v.c.im, .int .i64 v.c.den, .int .i64 v.d.re, .int .i64 v.d.im, .int .i64 v.d.den] ?kl12d ?kl124 ?kl125 ?kl126 ?kl127 ?kl128); (case kl122 => rfl); (case kl121 => rfl); (case kl123 => rfl); (case kl124 => (exact (World.rangeAt_alloc Hv.out _))); (case kl125 => exact Try.underlying29); (case kl126 => rfl); (case kl127 => kernel_rfl)) | ((with_reducible refine wpList_load_mid ?kl131 29 ?kl13x ?kl132 (w4.heap.size) 0 ?kl133 [.int .i64 u.a.re, .int .i64 u.a.im, .int .i64 u.a.den, .int .i64 u.b.re, .int .i64 u.b.im, .int .i64 u.b.den, .int .i64 u.c.re, .int .i64 u.c.im, .int .i64 u.c.den, .int .i64 u.d.re, .int .i64 u.d.im, .int .i64 u.d.den] ?kl13d ?kl134 ?kl135 ?kl136 ?kl137 ?kl138); (case kl132 => rfl); (case kl131 => rfl); (case kl133 => rfl); (case kl134 => (exact (World.rangeAt_alloc Hu.out _))); (case kl135 => exact Try.underlying29); (case kl136 => rfl); (case kl137 => kernel_rfl)))
    refine (imtm_m v u _).mono ?_
    rintro e w7 ho
    rw [HX.out] at ho
    obtain ⟨rfl, hb⟩ : e = .returned (.tuple #[.agg #[.int .i64 X.a.re, .int .i64 X.a.im, .int .i64 X.a.den, .int .i64 X.b.re, .int .i64 X.b.im, .int .i64 X.b.den, .int .i64 X.c.re, .int .i64 X.c.im, .int .i64 X.c.den, .int .i64 X.d.re, .int .i64 X.d.im, .int .i64 X.d.den], .bool s]) ∧ Below _ _ _ := ho.fn
    clear ho
    have HB := Lib.hid (show Below w.heap.size w w7 from HB.out.trans ((show Below _ _ _ from ((Below.refl _ _).alloc (by omega) _)).trans (hb.mono (by first | omega | (simp <;> omega)))))
    have Ha : Hid (w7.rangeAt (w1.heap.size) 0 [.int .i64 a.a.re, .int .i64 a.a.im, .int .i64 a.a.den, .int .i64 a.b.re, .int .i64 a.b.im, .int .i64 a.b.den, .int .i64 a.c.re, .int .i64 a.c.im, .int .i64 a.c.den, .int .i64 a.d.re, .int .i64 a.d.im, .int .i64 a.d.den]) := rangeAt_below (World.rangeAt_alloc Ha.out _) hb (by first | omega | (simp; done) | (simp <;> omega))
    have Hb : Hid (w7.rangeAt (w1.heap.size + 1) 0 [.int .i64 b.a.re, .int .i64 b.a.im, .int .i64 b.a.den, .int .i64 b.b.re, .int .i64 b.b.im, .int .i64 b.b.den, .int .i64 b.c.re, .int .i64 b.c.im, .int .i64 b.c.den, .int .i64 b.d.re, .int .i64 b.d.im, .int .i64 b.d.den]) := rangeAt_below (World.rangeAt_alloc Hb.out _) hb (by first | omega | (simp; done) | (simp <;> omega))
    have Ho : Hid (w7.rangeAt (w2.heap.size) 0 [.int .i64 m.a.re, .int .i64 m.a.im, .int .i64 m.a.den, .int .i64 m.b.re, .int .i64 m.b.im, .int .i64 m.b.den, .int .i64 m.c.re, .int .i64 m.c.im, .int .i64 m.c.den, .int .i64 m.d.re, .int .i64 m.d.im, .int .i64 m.d.den]) := rangeAt_below (World.rangeAt_alloc Ho.out _) hb (by first | omega | (simp; done) | (simp <;> omega))
    have Hq : Hid (w7.rangeAt (w3.heap.size) 0 [.int .i64 m.a.re, .int .i64 m.a.im, .int .i64 m.a.den, .int .i64 m.b.re, .int .i64 m.b.im, .int .i64 m.b.den, .int .i64 m.c.re, .int .i64 m.c.im, .int .i64 m.c.den, .int .i64 m.d.re, .int .i64 m.d.im, .int .i64 m.d.den]) := rangeAt_below (World.rangeAt_alloc Hq.out _) hb (by first | omega | (simp; done) | (simp <;> omega))
    have Hu : Hid (w7.rangeAt (w4.heap.size) 0 [.int .i64 u.a.re, .int .i64 u.a.im, .int .i64 u.a.den, .int .i64 u.b.re, .int .i64 u.b.im, .int .i64 u.b.den, .int .i64 u.c.re, .int .i64 u.c.im, .int .i64 u.c.den, .int .i64 u.d.re, .int .i64 u.d.im, .int .i64 u.d.den]) := rangeAt_below (World.rangeAt_alloc Hu.out _) hb (by first | omega | (simp; done) | (simp <;> omega))
    have Hv : Hid (w7.rangeAt (w5.heap.size) 0 [.int .i64 v.a.re, .int .i64 v.a.im, .int .i64 v.a.den, .int .i64 v.b.re, .int .i64 v.b.im, .int .i64 v.b.den, .int .i64 v.c.re, .int .i64 v.c.im, .int .i64 v.c.den, .int .i64 v.d.re, .int .i64 v.d.im, .int .i64 v.d.den]) := rangeAt_below (World.rangeAt_alloc Hv.out _) hb (by first | omega | (simp; done) | (simp <;> omega))
    have Hbw : Hid (w7.rangeAt w6.heap.size 0 [.int .i64 W.a.re, .int .i64 W.a.im, .int .i64 W.a.den, .int .i64 W.b.re, .int .i64 W.b.im, .int .i64 W.b.den, .int .i64 W.c.re, .int .i64 W.c.im, .int .i64 W.c.den, .int .i64 W.d.re, .int .i64 W.d.im, .int .i64 W.d.den]) := rangeAt_below (rangeAt_new _ _ _) hb (by first | omega | (simp; done) | (simp <;> omega))
    have hz7 := hb.size
    (try simp at hz7)
    clear hb
    have nA0 : w1.heap.size < w7.heap.size := by omega
    have nB0 : ¬ w1.heap.size = w7.heap.size := by omega
    have nC0 : ¬ w7.heap.size = w1.heap.size := by omega
    have nA1 : w1.heap.size + 1 < w7.heap.size := by omega
    have nB1 : ¬ w1.heap.size + 1 = w7.heap.size := by omega
    have nC1 : ¬ w7.heap.size = w1.heap.size + 1 := by omega
    have nA2 : w2.heap.size < w7.heap.size := by omega
    have nB2 : ¬ w2.heap.size = w7.heap.size := by omega
    have nC2 : ¬ w7.heap.size = w2.heap.size := by omega
    have nA3 : w3.heap.size < w7.heap.size := by omega
    have nB3 : ¬ w3.heap.size = w7.heap.size := by omega
    have nC3 : ¬ w7.heap.size = w3.heap.size := by omega
    have nA4 : w4.heap.size < w7.heap.size := by omega
    have nB4 : ¬ w4.heap.size = w7.heap.size := by omega
    have nC4 : ¬ w7.heap.size = w4.heap.size := by omega
    have nA5 : w5.heap.size < w7.heap.size := by omega
    have nB5 : ¬ w5.heap.size = w7.heap.size := by omega
    have nC5 : ¬ w7.heap.size = w5.heap.size := by omega
    have nA6 : w6.heap.size < w7.heap.size := by omega
    have nB6 : ¬ w6.heap.size = w7.heap.size := by omega
    have nC6 : ¬ w7.heap.size = w6.heap.size := by omega
    go_wp2_with (first | ((with_reducible refine wpList_load_mid ?kl141 29 ?kl14x ?kl142 (w1.heap.size) 0 ?kl143 [.int .i64 a.a.re, .int .i64 a.a.im, .int .i64 a.a.den, .int .i64 a.b.re, .int .i64 a.b.im, .int .i64 a.b.den, .int .i64 a.c.re, .int .i64 a.c.im, .int .i64 a.c.den, .int .i64 a.d.re, .int .i64 a.d.im, .int .i64 a.d.den] ?kl14d ?kl144 ?kl145 ?kl146 ?kl147 ?kl148); (case kl142 => rfl); (case kl141 => rfl); (case kl143 => rfl); (case kl144 => (exact (World.rangeAt_alloc Ha.out _))); (case kl145 => exact Try.underlying29); (case kl146 => rfl); (case kl147 => kernel_rfl)))
    refine (imatdet_any a _).mono ?_
    rintro e w8 ho
    rw [HK.out] at ho
    obtain ⟨rfl, hb⟩ : e = .returned (.tuple #[.agg #[.int .i64 k.re, .int .i64 k.im, .int .i64 k.den], .bool t]) ∧ Below _ _ _ := ho.fn
    clear ho
    have HB := Lib.hid (show Below w.heap.size w w8 from HB.out.trans ((show Below _ _ _ from ((Below.refl _ _).alloc (by omega) _)).trans (hb.mono (by first | omega | (simp <;> omega)))))
    have Ha : Hid (w8.rangeAt (w1.heap.size) 0 [.int .i64 a.a.re, .int .i64 a.a.im, .int .i64 a.a.den, .int .i64 a.b.re, .int .i64 a.b.im, .int .i64 a.b.den, .int .i64 a.c.re, .int .i64 a.c.im, .int .i64 a.c.den, .int .i64 a.d.re, .int .i64 a.d.im, .int .i64 a.d.den]) := rangeAt_below (World.rangeAt_alloc Ha.out _) hb (by first | omega | (simp; done) | (simp <;> omega))
    have Hb : Hid (w8.rangeAt (w1.heap.size + 1) 0 [.int .i64 b.a.re, .int .i64 b.a.im, .int .i64 b.a.den, .int .i64 b.b.re, .int .i64 b.b.im, .int .i64 b.b.den, .int .i64 b.c.re, .int .i64 b.c.im, .int .i64 b.c.den, .int .i64 b.d.re, .int .i64 b.d.im, .int .i64 b.d.den]) := rangeAt_below (World.rangeAt_alloc Hb.out _) hb (by first | omega | (simp; done) | (simp <;> omega))
    have Ho : Hid (w8.rangeAt (w2.heap.size) 0 [.int .i64 m.a.re, .int .i64 m.a.im, .int .i64 m.a.den, .int .i64 m.b.re, .int .i64 m.b.im, .int .i64 m.b.den, .int .i64 m.c.re, .int .i64 m.c.im, .int .i64 m.c.den, .int .i64 m.d.re, .int .i64 m.d.im, .int .i64 m.d.den]) := rangeAt_below (World.rangeAt_alloc Ho.out _) hb (by first | omega | (simp; done) | (simp <;> omega))
    have Hq : Hid (w8.rangeAt (w3.heap.size) 0 [.int .i64 m.a.re, .int .i64 m.a.im, .int .i64 m.a.den, .int .i64 m.b.re, .int .i64 m.b.im, .int .i64 m.b.den, .int .i64 m.c.re, .int .i64 m.c.im, .int .i64 m.c.den, .int .i64 m.d.re, .int .i64 m.d.im, .int .i64 m.d.den]) := rangeAt_below (World.rangeAt_alloc Hq.out _) hb (by first | omega | (simp; done) | (simp <;> omega))
    have Hu : Hid (w8.rangeAt (w4.heap.size) 0 [.int .i64 u.a.re, .int .i64 u.a.im, .int .i64 u.a.den, .int .i64 u.b.re, .int .i64 u.b.im, .int .i64 u.b.den, .int .i64 u.c.re, .int .i64 u.c.im, .int .i64 u.c.den, .int .i64 u.d.re, .int .i64 u.d.im, .int .i64 u.d.den]) := rangeAt_below (World.rangeAt_alloc Hu.out _) hb (by first | omega | (simp; done) | (simp <;> omega))
    have Hv : Hid (w8.rangeAt (w5.heap.size) 0 [.int .i64 v.a.re, .int .i64 v.a.im, .int .i64 v.a.den, .int .i64 v.b.re, .int .i64 v.b.im, .int .i64 v.b.den, .int .i64 v.c.re, .int .i64 v.c.im, .int .i64 v.c.den, .int .i64 v.d.re, .int .i64 v.d.im, .int .i64 v.d.den]) := rangeAt_below (World.rangeAt_alloc Hv.out _) hb (by first | omega | (simp; done) | (simp <;> omega))
    have Hbw : Hid (w8.rangeAt (w6.heap.size) 0 [.int .i64 W.a.re, .int .i64 W.a.im, .int .i64 W.a.den, .int .i64 W.b.re, .int .i64 W.b.im, .int .i64 W.b.den, .int .i64 W.c.re, .int .i64 W.c.im, .int .i64 W.c.den, .int .i64 W.d.re, .int .i64 W.d.im, .int .i64 W.d.den]) := rangeAt_below (World.rangeAt_alloc Hbw.out _) hb (by first | omega | (simp; done) | (simp <;> omega))
    have Hbx : Hid (w8.rangeAt w7.heap.size 0 [.int .i64 X.a.re, .int .i64 X.a.im, .int .i64 X.a.den, .int .i64 X.b.re, .int .i64 X.b.im, .int .i64 X.b.den, .int .i64 X.c.re, .int .i64 X.c.im, .int .i64 X.c.den, .int .i64 X.d.re, .int .i64 X.d.im, .int .i64 X.d.den]) := rangeAt_below (rangeAt_new _ _ _) hb (by first | omega | (simp; done) | (simp <;> omega))
    have hz8 := hb.size
    (try simp at hz8)
    clear hb
    have nA0 : w1.heap.size < w8.heap.size := by omega
    have nB0 : ¬ w1.heap.size = w8.heap.size := by omega
    have nC0 : ¬ w8.heap.size = w1.heap.size := by omega
    have nA1 : w1.heap.size + 1 < w8.heap.size := by omega
    have nB1 : ¬ w1.heap.size + 1 = w8.heap.size := by omega
    have nC1 : ¬ w8.heap.size = w1.heap.size + 1 := by omega
    have nA2 : w2.heap.size < w8.heap.size := by omega
    have nB2 : ¬ w2.heap.size = w8.heap.size := by omega
    have nC2 : ¬ w8.heap.size = w2.heap.size := by omega
    have nA3 : w3.heap.size < w8.heap.size := by omega
    have nB3 : ¬ w3.heap.size = w8.heap.size := by omega
    have nC3 : ¬ w8.heap.size = w3.heap.size := by omega
    have nA4 : w4.heap.size < w8.heap.size := by omega
    have nB4 : ¬ w4.heap.size = w8.heap.size := by omega
    have nC4 : ¬ w8.heap.size = w4.heap.size := by omega
    have nA5 : w5.heap.size < w8.heap.size := by omega
    have nB5 : ¬ w5.heap.size = w8.heap.size := by omega
    have nC5 : ¬ w8.heap.size = w5.heap.size := by omega
    have nA6 : w6.heap.size < w8.heap.size := by omega
    have nB6 : ¬ w6.heap.size = w8.heap.size := by omega
    have nC6 : ¬ w8.heap.size = w6.heap.size := by omega
    have nA7 : w7.heap.size < w8.heap.size := by omega
    have nB7 : ¬ w7.heap.size = w8.heap.size := by omega
    have nC7 : ¬ w8.heap.size = w7.heap.size := by omega
    go_wp2_with (first | ((with_reducible refine wpList_load_mid ?kl151 29 ?kl15x ?kl152 (w1.heap.size + 1) 0 ?kl153 [.int .i64 b.a.re, .int .i64 b.a.im, .int .i64 b.a.den, .int .i64 b.b.re, .int .i64 b.b.im, .int .i64 b.b.den, .int .i64 b.c.re, .int .i64 b.c.im, .int .i64 b.c.den, .int .i64 b.d.re, .int .i64 b.d.im, .int .i64 b.d.den] ?kl15d ?kl154 ?kl155 ?kl156 ?kl157 ?kl158); (case kl152 => rfl); (case kl151 => rfl); (case kl153 => rfl); (case kl154 => (exact (World.rangeAt_alloc Hb.out _))); (case kl155 => exact Try.underlying29); (case kl156 => rfl); (case kl157 => kernel_rfl)))
    refine (imatdet_any b _).mono ?_
    rintro e w9 ho
    rw [HL.out] at ho
    obtain ⟨rfl, hb⟩ : e = .returned (.tuple #[.agg #[.int .i64 l.re, .int .i64 l.im, .int .i64 l.den], .bool y]) ∧ Below _ _ _ := ho.fn
    clear ho
    have HB := Lib.hid (show Below w.heap.size w w9 from HB.out.trans ((show Below _ _ _ from ((Below.refl _ _).alloc (by omega) _)).trans (hb.mono (by first | omega | (simp <;> omega)))))
    have Ha : Hid (w9.rangeAt (w1.heap.size) 0 [.int .i64 a.a.re, .int .i64 a.a.im, .int .i64 a.a.den, .int .i64 a.b.re, .int .i64 a.b.im, .int .i64 a.b.den, .int .i64 a.c.re, .int .i64 a.c.im, .int .i64 a.c.den, .int .i64 a.d.re, .int .i64 a.d.im, .int .i64 a.d.den]) := rangeAt_below (World.rangeAt_alloc Ha.out _) hb (by first | omega | (simp; done) | (simp <;> omega))
    have Hb : Hid (w9.rangeAt (w1.heap.size + 1) 0 [.int .i64 b.a.re, .int .i64 b.a.im, .int .i64 b.a.den, .int .i64 b.b.re, .int .i64 b.b.im, .int .i64 b.b.den, .int .i64 b.c.re, .int .i64 b.c.im, .int .i64 b.c.den, .int .i64 b.d.re, .int .i64 b.d.im, .int .i64 b.d.den]) := rangeAt_below (World.rangeAt_alloc Hb.out _) hb (by first | omega | (simp; done) | (simp <;> omega))
    have Ho : Hid (w9.rangeAt (w2.heap.size) 0 [.int .i64 m.a.re, .int .i64 m.a.im, .int .i64 m.a.den, .int .i64 m.b.re, .int .i64 m.b.im, .int .i64 m.b.den, .int .i64 m.c.re, .int .i64 m.c.im, .int .i64 m.c.den, .int .i64 m.d.re, .int .i64 m.d.im, .int .i64 m.d.den]) := rangeAt_below (World.rangeAt_alloc Ho.out _) hb (by first | omega | (simp; done) | (simp <;> omega))
    have Hq : Hid (w9.rangeAt (w3.heap.size) 0 [.int .i64 m.a.re, .int .i64 m.a.im, .int .i64 m.a.den, .int .i64 m.b.re, .int .i64 m.b.im, .int .i64 m.b.den, .int .i64 m.c.re, .int .i64 m.c.im, .int .i64 m.c.den, .int .i64 m.d.re, .int .i64 m.d.im, .int .i64 m.d.den]) := rangeAt_below (World.rangeAt_alloc Hq.out _) hb (by first | omega | (simp; done) | (simp <;> omega))
    have Hu : Hid (w9.rangeAt (w4.heap.size) 0 [.int .i64 u.a.re, .int .i64 u.a.im, .int .i64 u.a.den, .int .i64 u.b.re, .int .i64 u.b.im, .int .i64 u.b.den, .int .i64 u.c.re, .int .i64 u.c.im, .int .i64 u.c.den, .int .i64 u.d.re, .int .i64 u.d.im, .int .i64 u.d.den]) := rangeAt_below (World.rangeAt_alloc Hu.out _) hb (by first | omega | (simp; done) | (simp <;> omega))
    have Hv : Hid (w9.rangeAt (w5.heap.size) 0 [.int .i64 v.a.re, .int .i64 v.a.im, .int .i64 v.a.den, .int .i64 v.b.re, .int .i64 v.b.im, .int .i64 v.b.den, .int .i64 v.c.re, .int .i64 v.c.im, .int .i64 v.c.den, .int .i64 v.d.re, .int .i64 v.d.im, .int .i64 v.d.den]) := rangeAt_below (World.rangeAt_alloc Hv.out _) hb (by first | omega | (simp; done) | (simp <;> omega))
    have Hbw : Hid (w9.rangeAt (w6.heap.size) 0 [.int .i64 W.a.re, .int .i64 W.a.im, .int .i64 W.a.den, .int .i64 W.b.re, .int .i64 W.b.im, .int .i64 W.b.den, .int .i64 W.c.re, .int .i64 W.c.im, .int .i64 W.c.den, .int .i64 W.d.re, .int .i64 W.d.im, .int .i64 W.d.den]) := rangeAt_below (World.rangeAt_alloc Hbw.out _) hb (by first | omega | (simp; done) | (simp <;> omega))
    have Hbx : Hid (w9.rangeAt (w7.heap.size) 0 [.int .i64 X.a.re, .int .i64 X.a.im, .int .i64 X.a.den, .int .i64 X.b.re, .int .i64 X.b.im, .int .i64 X.b.den, .int .i64 X.c.re, .int .i64 X.c.im, .int .i64 X.c.den, .int .i64 X.d.re, .int .i64 X.d.im, .int .i64 X.d.den]) := rangeAt_below (World.rangeAt_alloc Hbx.out _) hb (by first | omega | (simp; done) | (simp <;> omega))
    have Hk : Hid (w9.rangeAt w8.heap.size 0 [.int .i64 k.re, .int .i64 k.im, .int .i64 k.den]) := rangeAt_below (rangeAt_new _ _ _) hb (by first | omega | (simp; done) | (simp <;> omega))
    have hz9 := hb.size
    (try simp at hz9)
    clear hb
    have nA0 : w1.heap.size < w9.heap.size := by omega
    have nB0 : ¬ w1.heap.size = w9.heap.size := by omega
    have nC0 : ¬ w9.heap.size = w1.heap.size := by omega
    have nA1 : w1.heap.size + 1 < w9.heap.size := by omega
    have nB1 : ¬ w1.heap.size + 1 = w9.heap.size := by omega
    have nC1 : ¬ w9.heap.size = w1.heap.size + 1 := by omega
    have nA2 : w2.heap.size < w9.heap.size := by omega
    have nB2 : ¬ w2.heap.size = w9.heap.size := by omega
    have nC2 : ¬ w9.heap.size = w2.heap.size := by omega
    have nA3 : w3.heap.size < w9.heap.size := by omega
    have nB3 : ¬ w3.heap.size = w9.heap.size := by omega
    have nC3 : ¬ w9.heap.size = w3.heap.size := by omega
    have nA4 : w4.heap.size < w9.heap.size := by omega
    have nB4 : ¬ w4.heap.size = w9.heap.size := by omega
    have nC4 : ¬ w9.heap.size = w4.heap.size := by omega
    have nA5 : w5.heap.size < w9.heap.size := by omega
    have nB5 : ¬ w5.heap.size = w9.heap.size := by omega
    have nC5 : ¬ w9.heap.size = w5.heap.size := by omega
    have nA6 : w6.heap.size < w9.heap.size := by omega
    have nB6 : ¬ w6.heap.size = w9.heap.size := by omega
    have nC6 : ¬ w9.heap.size = w6.heap.size := by omega
    have nA7 : w7.heap.size < w9.heap.size := by omega
    have nB7 : ¬ w7.heap.size = w9.heap.size := by omega
    have nC7 : ¬ w9.heap.size = w7.heap.size := by omega
    have nA8 : w8.heap.size < w9.heap.size := by omega
    have nB8 : ¬ w8.heap.size = w9.heap.size := by omega
    have nC8 : ¬ w9.heap.size = w8.heap.size := by omega
    go_wp2_with (first | ((with_reducible refine wpList_load_mid ?kl161 29 ?kl16x ?kl162 (w2.heap.size) 0 ?kl163 [.int .i64 m.a.re, .int .i64 m.a.im, .int .i64 m.a.den, .int .i64 m.b.re, .int .i64 m.b.im, .int .i64 m.b.den, .int .i64 m.c.re, .int .i64 m.c.im, .int .i64 m.c.den, .int .i64 m.d.re, .int .i64 m.d.im, .int .i64 m.d.den] ?kl16d ?kl164 ?kl165 ?kl166 ?kl167 ?kl168); (case kl162 => rfl); (case kl161 => rfl); (case kl163 => rfl); (case kl164 => (exact (World.rangeAt_alloc Ho.out _))); (case kl165 => exact Try.underlying29); (case kl166 => rfl); (case kl167 => kernel_rfl)))
    refine (imatdet_any m _).mono ?_
    rintro e w10 ho
    rw [HD.out] at ho
    obtain ⟨rfl, hb⟩ : e = .returned (.tuple #[.agg #[.int .i64 d.re, .int .i64 d.im, .int .i64 d.den], .bool z]) ∧ Below _ _ _ := ho.fn
    clear ho
    have HB := Lib.hid (show Below w.heap.size w w10 from HB.out.trans ((show Below _ _ _ from ((Below.refl _ _).alloc (by omega) _)).trans (hb.mono (by first | omega | (simp <;> omega)))))
    have Ha : Hid (w10.rangeAt (w1.heap.size) 0 [.int .i64 a.a.re, .int .i64 a.a.im, .int .i64 a.a.den, .int .i64 a.b.re, .int .i64 a.b.im, .int .i64 a.b.den, .int .i64 a.c.re, .int .i64 a.c.im, .int .i64 a.c.den, .int .i64 a.d.re, .int .i64 a.d.im, .int .i64 a.d.den]) := rangeAt_below (World.rangeAt_alloc Ha.out _) hb (by first | omega | (simp; done) | (simp <;> omega))
    have Hb : Hid (w10.rangeAt (w1.heap.size + 1) 0 [.int .i64 b.a.re, .int .i64 b.a.im, .int .i64 b.a.den, .int .i64 b.b.re, .int .i64 b.b.im, .int .i64 b.b.den, .int .i64 b.c.re, .int .i64 b.c.im, .int .i64 b.c.den, .int .i64 b.d.re, .int .i64 b.d.im, .int .i64 b.d.den]) := rangeAt_below (World.rangeAt_alloc Hb.out _) hb (by first | omega | (simp; done) | (simp <;> omega))
    have Ho : Hid (w10.rangeAt (w2.heap.size) 0 [.int .i64 m.a.re, .int .i64 m.a.im, .int .i64 m.a.den, .int .i64 m.b.re, .int .i64 m.b.im, .int .i64 m.b.den, .int .i64 m.c.re, .int .i64 m.c.im, .int .i64 m.c.den, .int .i64 m.d.re, .int .i64 m.d.im, .int .i64 m.d.den]) := rangeAt_below (World.rangeAt_alloc Ho.out _) hb (by first | omega | (simp; done) | (simp <;> omega))
    have Hq : Hid (w10.rangeAt (w3.heap.size) 0 [.int .i64 m.a.re, .int .i64 m.a.im, .int .i64 m.a.den, .int .i64 m.b.re, .int .i64 m.b.im, .int .i64 m.b.den, .int .i64 m.c.re, .int .i64 m.c.im, .int .i64 m.c.den, .int .i64 m.d.re, .int .i64 m.d.im, .int .i64 m.d.den]) := rangeAt_below (World.rangeAt_alloc Hq.out _) hb (by first | omega | (simp; done) | (simp <;> omega))
    have Hu : Hid (w10.rangeAt (w4.heap.size) 0 [.int .i64 u.a.re, .int .i64 u.a.im, .int .i64 u.a.den, .int .i64 u.b.re, .int .i64 u.b.im, .int .i64 u.b.den, .int .i64 u.c.re, .int .i64 u.c.im, .int .i64 u.c.den, .int .i64 u.d.re, .int .i64 u.d.im, .int .i64 u.d.den]) := rangeAt_below (World.rangeAt_alloc Hu.out _) hb (by first | omega | (simp; done) | (simp <;> omega))
    have Hv : Hid (w10.rangeAt (w5.heap.size) 0 [.int .i64 v.a.re, .int .i64 v.a.im, .int .i64 v.a.den, .int .i64 v.b.re, .int .i64 v.b.im, .int .i64 v.b.den, .int .i64 v.c.re, .int .i64 v.c.im, .int .i64 v.c.den, .int .i64 v.d.re, .int .i64 v.d.im, .int .i64 v.d.den]) := rangeAt_below (World.rangeAt_alloc Hv.out _) hb (by first | omega | (simp; done) | (simp <;> omega))
    have Hbw : Hid (w10.rangeAt (w6.heap.size) 0 [.int .i64 W.a.re, .int .i64 W.a.im, .int .i64 W.a.den, .int .i64 W.b.re, .int .i64 W.b.im, .int .i64 W.b.den, .int .i64 W.c.re, .int .i64 W.c.im, .int .i64 W.c.den, .int .i64 W.d.re, .int .i64 W.d.im, .int .i64 W.d.den]) := rangeAt_below (World.rangeAt_alloc Hbw.out _) hb (by first | omega | (simp; done) | (simp <;> omega))
    have Hbx : Hid (w10.rangeAt (w7.heap.size) 0 [.int .i64 X.a.re, .int .i64 X.a.im, .int .i64 X.a.den, .int .i64 X.b.re, .int .i64 X.b.im, .int .i64 X.b.den, .int .i64 X.c.re, .int .i64 X.c.im, .int .i64 X.c.den, .int .i64 X.d.re, .int .i64 X.d.im, .int .i64 X.d.den]) := rangeAt_below (World.rangeAt_alloc Hbx.out _) hb (by first | omega | (simp; done) | (simp <;> omega))
    have Hk : Hid (w10.rangeAt (w8.heap.size) 0 [.int .i64 k.re, .int .i64 k.im, .int .i64 k.den]) := rangeAt_below (World.rangeAt_alloc Hk.out _) hb (by first | omega | (simp; done) | (simp <;> omega))
    have Hl : Hid (w10.rangeAt w9.heap.size 0 [.int .i64 l.re, .int .i64 l.im, .int .i64 l.den]) := rangeAt_below (rangeAt_new _ _ _) hb (by first | omega | (simp; done) | (simp <;> omega))
    have hz10 := hb.size
    (try simp at hz10)
    clear hb
    have nA0 : w1.heap.size < w10.heap.size := by omega
    have nB0 : ¬ w1.heap.size = w10.heap.size := by omega
    have nC0 : ¬ w10.heap.size = w1.heap.size := by omega
    have nA1 : w1.heap.size + 1 < w10.heap.size := by omega
    have nB1 : ¬ w1.heap.size + 1 = w10.heap.size := by omega
    have nC1 : ¬ w10.heap.size = w1.heap.size + 1 := by omega
    have nA2 : w2.heap.size < w10.heap.size := by omega
    have nB2 : ¬ w2.heap.size = w10.heap.size := by omega
    have nC2 : ¬ w10.heap.size = w2.heap.size := by omega
    have nA3 : w3.heap.size < w10.heap.size := by omega
    have nB3 : ¬ w3.heap.size = w10.heap.size := by omega
    have nC3 : ¬ w10.heap.size = w3.heap.size := by omega
    have nA4 : w4.heap.size < w10.heap.size := by omega
    have nB4 : ¬ w4.heap.size = w10.heap.size := by omega
    have nC4 : ¬ w10.heap.size = w4.heap.size := by omega
    have nA5 : w5.heap.size < w10.heap.size := by omega
    have nB5 : ¬ w5.heap.size = w10.heap.size := by omega
    have nC5 : ¬ w10.heap.size = w5.heap.size := by omega
    have nA6 : w6.heap.size < w10.heap.size := by omega
    have nB6 : ¬ w6.heap.size = w10.heap.size := by omega
    have nC6 : ¬ w10.heap.size = w6.heap.size := by omega
    have nA7 : w7.heap.size < w10.heap.size := by omega
    have nB7 : ¬ w7.heap.size = w10.heap.size := by omega
    have nC7 : ¬ w10.heap.size = w7.heap.size := by omega
    have nA8 : w8.heap.size < w10.heap.size := by omega
    have nB8 : ¬ w8.heap.size = w10.heap.size := by omega
    have nC8 : ¬ w10.heap.size = w8.heap.size := by omega
    have nA9 : w9.heap.size < w10.heap.size := by omega
    have nB9 : ¬ w9.heap.size = w10.heap.size := by omega
    have nC9 : ¬ w10.heap.size = w9.heap.size := by omega
    have zk_0 : w10.cell? ⟨w8.heap.size, 0, none⟩ = some (.int .i64 k.re) := by have := Hk.out 0 _ rfl; rwa [Nat.zero_add] at this
    have zk_1 : w10.cell? ⟨w8.heap.size, 1, none⟩ = some (.int .i64 k.im) := by have := Hk.out 1 _ rfl; rwa [Nat.zero_add] at this
    have zk_2 : w10.cell? ⟨w8.heap.size, 2, none⟩ = some (.int .i64 k.den) := by have := Hk.out 2 _ rfl; rwa [Nat.zero_add] at this
    have zl_0 : w10.cell? ⟨w9.heap.size, 0, none⟩ = some (.int .i64 l.re) := by have := Hl.out 0 _ rfl; rwa [Nat.zero_add] at this
    have zl_1 : w10.cell? ⟨w9.heap.size, 1, none⟩ = some (.int .i64 l.im) := by have := Hl.out 1 _ rfl; rwa [Nat.zero_add] at this
    have zl_2 : w10.cell? ⟨w9.heap.size, 2, none⟩ = some (.int .i64 l.den) := by have := Hl.out 2 _ rfl; rwa [Nat.zero_add] at this
    go_wp2_with (first | ((with_reducible refine wpList_load_mid ?kl171 26 ?kl17x ?kl172 (w8.heap.size) 0 ?kl173 [.int .i64 k.re, .int .i64 k.im, .int .i64 k.den] ?kl17d ?kl174 ?kl175 ?kl176 ?kl177 ?kl178); (case kl172 => rfl); (case kl171 => rfl); (case kl173 => rfl); (case kl174 => (exact (World.rangeAt_alloc Hk.out _))); (case kl175 => exact Try.underlying26); (case kl176 => rfl); (case kl177 => kernel_rfl)) | ((with_reducible refine wpList_load_mid ?kl181 26 ?kl18x ?kl182 (w9.heap.size) 0 ?kl183 [.int .i64 l.re, .int .i64 l.im, .int .i64 l.den] ?kl18d ?kl184 ?kl185 ?kl186 ?kl187 ?kl188); (case kl182 => rfl); (case kl181 => rfl); (case kl183 => rfl); (case kl184 => (exact (World.rangeAt_alloc Hl.out _))); (case kl185 => exact Try.underlying26); (case kl186 => rfl); (case kl187 => kernel_rfl)))
    refine (times_fr k l _).mono ?_
    rintro e w11 ho
    rw [HN.out] at ho
    obtain ⟨rfl, hb⟩ : e = .returned (.tuple #[.agg #[.int .i64 n.re, .int .i64 n.im, .int .i64 n.den], .bool o1]) ∧ Below _ _ _ := ho.fn
    clear ho
    have HB := Lib.hid (show Below w.heap.size w w11 from HB.out.trans ((show Below _ _ _ from ((Below.refl _ _).alloc (by omega) _)).trans (hb.mono (by first | omega | (simp <;> omega)))))
    have Ha : Hid (w11.rangeAt (w1.heap.size) 0 [.int .i64 a.a.re, .int .i64 a.a.im, .int .i64 a.a.den, .int .i64 a.b.re, .int .i64 a.b.im, .int .i64 a.b.den, .int .i64 a.c.re, .int .i64 a.c.im, .int .i64 a.c.den, .int .i64 a.d.re, .int .i64 a.d.im, .int .i64 a.d.den]) := rangeAt_below (World.rangeAt_alloc Ha.out _) hb (by first | omega | (simp; done) | (simp <;> omega))
    have Hb : Hid (w11.rangeAt (w1.heap.size + 1) 0 [.int .i64 b.a.re, .int .i64 b.a.im, .int .i64 b.a.den, .int .i64 b.b.re, .int .i64 b.b.im, .int .i64 b.b.den, .int .i64 b.c.re, .int .i64 b.c.im, .int .i64 b.c.den, .int .i64 b.d.re, .int .i64 b.d.im, .int .i64 b.d.den]) := rangeAt_below (World.rangeAt_alloc Hb.out _) hb (by first | omega | (simp; done) | (simp <;> omega))
    have Ho : Hid (w11.rangeAt (w2.heap.size) 0 [.int .i64 m.a.re, .int .i64 m.a.im, .int .i64 m.a.den, .int .i64 m.b.re, .int .i64 m.b.im, .int .i64 m.b.den, .int .i64 m.c.re, .int .i64 m.c.im, .int .i64 m.c.den, .int .i64 m.d.re, .int .i64 m.d.im, .int .i64 m.d.den]) := rangeAt_below (World.rangeAt_alloc Ho.out _) hb (by first | omega | (simp; done) | (simp <;> omega))
    have Hq : Hid (w11.rangeAt (w3.heap.size) 0 [.int .i64 m.a.re, .int .i64 m.a.im, .int .i64 m.a.den, .int .i64 m.b.re, .int .i64 m.b.im, .int .i64 m.b.den, .int .i64 m.c.re, .int .i64 m.c.im, .int .i64 m.c.den, .int .i64 m.d.re, .int .i64 m.d.im, .int .i64 m.d.den]) := rangeAt_below (World.rangeAt_alloc Hq.out _) hb (by first | omega | (simp; done) | (simp <;> omega))
    have Hu : Hid (w11.rangeAt (w4.heap.size) 0 [.int .i64 u.a.re, .int .i64 u.a.im, .int .i64 u.a.den, .int .i64 u.b.re, .int .i64 u.b.im, .int .i64 u.b.den, .int .i64 u.c.re, .int .i64 u.c.im, .int .i64 u.c.den, .int .i64 u.d.re, .int .i64 u.d.im, .int .i64 u.d.den]) := rangeAt_below (World.rangeAt_alloc Hu.out _) hb (by first | omega | (simp; done) | (simp <;> omega))
    have Hv : Hid (w11.rangeAt (w5.heap.size) 0 [.int .i64 v.a.re, .int .i64 v.a.im, .int .i64 v.a.den, .int .i64 v.b.re, .int .i64 v.b.im, .int .i64 v.b.den, .int .i64 v.c.re, .int .i64 v.c.im, .int .i64 v.c.den, .int .i64 v.d.re, .int .i64 v.d.im, .int .i64 v.d.den]) := rangeAt_below (World.rangeAt_alloc Hv.out _) hb (by first | omega | (simp; done) | (simp <;> omega))
    have Hbw : Hid (w11.rangeAt (w6.heap.size) 0 [.int .i64 W.a.re, .int .i64 W.a.im, .int .i64 W.a.den, .int .i64 W.b.re, .int .i64 W.b.im, .int .i64 W.b.den, .int .i64 W.c.re, .int .i64 W.c.im, .int .i64 W.c.den, .int .i64 W.d.re, .int .i64 W.d.im, .int .i64 W.d.den]) := rangeAt_below (World.rangeAt_alloc Hbw.out _) hb (by first | omega | (simp; done) | (simp <;> omega))
    have Hbx : Hid (w11.rangeAt (w7.heap.size) 0 [.int .i64 X.a.re, .int .i64 X.a.im, .int .i64 X.a.den, .int .i64 X.b.re, .int .i64 X.b.im, .int .i64 X.b.den, .int .i64 X.c.re, .int .i64 X.c.im, .int .i64 X.c.den, .int .i64 X.d.re, .int .i64 X.d.im, .int .i64 X.d.den]) := rangeAt_below (World.rangeAt_alloc Hbx.out _) hb (by first | omega | (simp; done) | (simp <;> omega))
    have Hk : Hid (w11.rangeAt (w8.heap.size) 0 [.int .i64 k.re, .int .i64 k.im, .int .i64 k.den]) := rangeAt_below (World.rangeAt_alloc Hk.out _) hb (by first | omega | (simp; done) | (simp <;> omega))
    have Hl : Hid (w11.rangeAt (w9.heap.size) 0 [.int .i64 l.re, .int .i64 l.im, .int .i64 l.den]) := rangeAt_below (World.rangeAt_alloc Hl.out _) hb (by first | omega | (simp; done) | (simp <;> omega))
    have Hd : Hid (w11.rangeAt w10.heap.size 0 [.int .i64 d.re, .int .i64 d.im, .int .i64 d.den]) := rangeAt_below (rangeAt_new _ _ _) hb (by first | omega | (simp; done) | (simp <;> omega))
    have hz11 := hb.size
    (try simp at hz11)
    clear hb
    have nA0 : w1.heap.size < w11.heap.size := by omega
    have nB0 : ¬ w1.heap.size = w11.heap.size := by omega
    have nC0 : ¬ w11.heap.size = w1.heap.size := by omega
    have nA1 : w1.heap.size + 1 < w11.heap.size := by omega
    have nB1 : ¬ w1.heap.size + 1 = w11.heap.size := by omega
    have nC1 : ¬ w11.heap.size = w1.heap.size + 1 := by omega
    have nA2 : w2.heap.size < w11.heap.size := by omega
    have nB2 : ¬ w2.heap.size = w11.heap.size := by omega
    have nC2 : ¬ w11.heap.size = w2.heap.size := by omega
    have nA3 : w3.heap.size < w11.heap.size := by omega
    have nB3 : ¬ w3.heap.size = w11.heap.size := by omega
    have nC3 : ¬ w11.heap.size = w3.heap.size := by omega
    have nA4 : w4.heap.size < w11.heap.size := by omega
    have nB4 : ¬ w4.heap.size = w11.heap.size := by omega
    have nC4 : ¬ w11.heap.size = w4.heap.size := by omega
    have nA5 : w5.heap.size < w11.heap.size := by omega
    have nB5 : ¬ w5.heap.size = w11.heap.size := by omega
    have nC5 : ¬ w11.heap.size = w5.heap.size := by omega
    have nA6 : w6.heap.size < w11.heap.size := by omega
    have nB6 : ¬ w6.heap.size = w11.heap.size := by omega
    have nC6 : ¬ w11.heap.size = w6.heap.size := by omega
    have nA7 : w7.heap.size < w11.heap.size := by omega
    have nB7 : ¬ w7.heap.size = w11.heap.size := by omega
    have nC7 : ¬ w11.heap.size = w7.heap.size := by omega
    have nA8 : w8.heap.size < w11.heap.size := by omega
    have nB8 : ¬ w8.heap.size = w11.heap.size := by omega
    have nC8 : ¬ w11.heap.size = w8.heap.size := by omega
    have nA9 : w9.heap.size < w11.heap.size := by omega
    have nB9 : ¬ w9.heap.size = w11.heap.size := by omega
    have nC9 : ¬ w11.heap.size = w9.heap.size := by omega
    have nA10 : w10.heap.size < w11.heap.size := by omega
    have nB10 : ¬ w10.heap.size = w11.heap.size := by omega
    have nC10 : ¬ w11.heap.size = w10.heap.size := by omega
    have zd_0 : w11.cell? ⟨w10.heap.size, 0, none⟩ = some (.int .i64 d.re) := by have := Hd.out 0 _ rfl; rwa [Nat.zero_add] at this
    have zd_1 : w11.cell? ⟨w10.heap.size, 1, none⟩ = some (.int .i64 d.im) := by have := Hd.out 1 _ rfl; rwa [Nat.zero_add] at this
    have zd_2 : w11.cell? ⟨w10.heap.size, 2, none⟩ = some (.int .i64 d.den) := by have := Hd.out 2 _ rfl; rwa [Nat.zero_add] at this
    cases s
    · skip
      cases t
      · skip
        go_wp2_with fail
        go_ret
        exact ⟨rfl, (by (repeat' first | (with_reducible exact HB.out) | with_reducible refine setCells_below _ _ _ ?_ (by first | omega | (simp <;> omega)) | with_reducible refine Below.setCell ?_ (by show _ ≤ _; first | omega | (simp <;> omega) | simp) _ | with_reducible refine Below.alloc ?_ (by first | omega | (simp <;> omega)) _ | with_reducible apply Below.drew))⟩
      cases y
      · skip
        go_wp2_with fail
        go_ret
        exact ⟨rfl, (by (repeat' first | (with_reducible exact HB.out) | with_reducible refine setCells_below _ _ _ ?_ (by first | omega | (simp <;> omega)) | with_reducible refine Below.setCell ?_ (by show _ ≤ _; first | omega | (simp <;> omega) | simp) _ | with_reducible refine Below.alloc ?_ (by first | omega | (simp <;> omega)) _ | with_reducible apply Below.drew))⟩
      cases z
      · skip
        go_wp2_with fail
        go_ret
        exact ⟨rfl, (by (repeat' first | (with_reducible exact HB.out) | with_reducible refine setCells_below _ _ _ ?_ (by first | omega | (simp <;> omega)) | with_reducible refine Below.setCell ?_ (by show _ ≤ _; first | omega | (simp <;> omega) | simp) _ | with_reducible refine Below.alloc ?_ (by first | omega | (simp <;> omega)) _ | with_reducible apply Below.drew))⟩
      cases o1
      · skip
        go_wp2_with fail
        go_ret
        exact ⟨rfl, (by (repeat' first | (with_reducible exact HB.out) | with_reducible refine setCells_below _ _ _ ?_ (by first | omega | (simp <;> omega)) | with_reducible refine Below.setCell ?_ (by show _ ≤ _; first | omega | (simp <;> omega) | simp) _ | with_reducible refine Below.alloc ?_ (by first | omega | (simp <;> omega)) _ | with_reducible apply Below.drew))⟩
      have e := HDN.out rfl rfl rfl rfl
      subst e
      go_wp2_with fail
      go_ret
      exact ⟨rfl, (by (repeat' first | (with_reducible exact HB.out) | with_reducible refine setCells_below _ _ _ ?_ (by first | omega | (simp <;> omega)) | with_reducible refine Below.setCell ?_ (by show _ ≤ _; first | omega | (simp <;> omega) | simp) _ | with_reducible refine Below.alloc ?_ (by first | omega | (simp <;> omega)) _ | with_reducible apply Below.drew))⟩
    · skip
      have e := HXW.out rfl
      subst e
      have hEq2 : ∀ w, (Op.equalIn 10000 29 (.agg #[.int .i64 X.a.re, .int .i64 X.a.im, .int .i64 X.a.den, .int .i64 X.b.re, .int .i64 X.b.im, .int .i64 X.b.den, .int .i64 X.c.re, .int .i64 X.c.im, .int .i64 X.c.den, .int .i64 X.d.re, .int .i64 X.d.im, .int .i64 X.d.den]) (.agg #[.int .i64 X.a.re, .int .i64 X.a.im, .int .i64 X.a.den, .int .i64 X.b.re, .int .i64 X.b.im, .int .i64 X.b.den, .int .i64 X.c.re, .int .i64 X.c.im, .int .i64 X.c.den, .int .i64 X.d.re, .int .i64 X.d.im, .int .i64 X.d.den])).run Try.prog w = .ok true w := eqMat_run X
      have zbx_0 : w11.cell? ⟨w7.heap.size, 0, none⟩ = some (.int .i64 X.a.re) := by have := Hbx.out 0 _ rfl; rwa [Nat.zero_add] at this
      have zbx_1 : w11.cell? ⟨w7.heap.size, 1, none⟩ = some (.int .i64 X.a.im) := by have := Hbx.out 1 _ rfl; rwa [Nat.zero_add] at this
      have zbx_2 : w11.cell? ⟨w7.heap.size, 2, none⟩ = some (.int .i64 X.a.den) := by have := Hbx.out 2 _ rfl; rwa [Nat.zero_add] at this
      have zbx_3 : w11.cell? ⟨w7.heap.size, 3, none⟩ = some (.int .i64 X.b.re) := by have := Hbx.out 3 _ rfl; rwa [Nat.zero_add] at this
      have zbx_4 : w11.cell? ⟨w7.heap.size, 4, none⟩ = some (.int .i64 X.b.im) := by have := Hbx.out 4 _ rfl; rwa [Nat.zero_add] at this
      have zbx_5 : w11.cell? ⟨w7.heap.size, 5, none⟩ = some (.int .i64 X.b.den) := by have := Hbx.out 5 _ rfl; rwa [Nat.zero_add] at this
      have zbx_6 : w11.cell? ⟨w7.heap.size, 6, none⟩ = some (.int .i64 X.c.re) := by have := Hbx.out 6 _ rfl; rwa [Nat.zero_add] at this
      have zbx_7 : w11.cell? ⟨w7.heap.size, 7, none⟩ = some (.int .i64 X.c.im) := by have := Hbx.out 7 _ rfl; rwa [Nat.zero_add] at this
      have zbx_8 : w11.cell? ⟨w7.heap.size, 8, none⟩ = some (.int .i64 X.c.den) := by have := Hbx.out 8 _ rfl; rwa [Nat.zero_add] at this
      have zbx_9 : w11.cell? ⟨w7.heap.size, 9, none⟩ = some (.int .i64 X.d.re) := by have := Hbx.out 9 _ rfl; rwa [Nat.zero_add] at this
      have zbx_10 : w11.cell? ⟨w7.heap.size, 10, none⟩ = some (.int .i64 X.d.im) := by have := Hbx.out 10 _ rfl; rwa [Nat.zero_add] at this
      have zbx_11 : w11.cell? ⟨w7.heap.size, 11, none⟩ = some (.int .i64 X.d.den) := by have := Hbx.out 11 _ rfl; rwa [Nat.zero_add] at this
      have zbw_0 : w11.cell? ⟨w6.heap.size, 0, none⟩ = some (.int .i64 X.a.re) := by have := Hbw.out 0 _ rfl; rwa [Nat.zero_add] at this
      have zbw_1 : w11.cell? ⟨w6.heap.size, 1, none⟩ = some (.int .i64 X.a.im) := by have := Hbw.out 1 _ rfl; rwa [Nat.zero_add] at this
      have zbw_2 : w11.cell? ⟨w6.heap.size, 2, none⟩ = some (.int .i64 X.a.den) := by have := Hbw.out 2 _ rfl; rwa [Nat.zero_add] at this
      have zbw_3 : w11.cell? ⟨w6.heap.size, 3, none⟩ = some (.int .i64 X.b.re) := by have := Hbw.out 3 _ rfl; rwa [Nat.zero_add] at this
      have zbw_4 : w11.cell? ⟨w6.heap.size, 4, none⟩ = some (.int .i64 X.b.im) := by have := Hbw.out 4 _ rfl; rwa [Nat.zero_add] at this
      have zbw_5 : w11.cell? ⟨w6.heap.size, 5, none⟩ = some (.int .i64 X.b.den) := by have := Hbw.out 5 _ rfl; rwa [Nat.zero_add] at this
      have zbw_6 : w11.cell? ⟨w6.heap.size, 6, none⟩ = some (.int .i64 X.c.re) := by have := Hbw.out 6 _ rfl; rwa [Nat.zero_add] at this
      have zbw_7 : w11.cell? ⟨w6.heap.size, 7, none⟩ = some (.int .i64 X.c.im) := by have := Hbw.out 7 _ rfl; rwa [Nat.zero_add] at this
      have zbw_8 : w11.cell? ⟨w6.heap.size, 8, none⟩ = some (.int .i64 X.c.den) := by have := Hbw.out 8 _ rfl; rwa [Nat.zero_add] at this
      have zbw_9 : w11.cell? ⟨w6.heap.size, 9, none⟩ = some (.int .i64 X.d.re) := by have := Hbw.out 9 _ rfl; rwa [Nat.zero_add] at this
      have zbw_10 : w11.cell? ⟨w6.heap.size, 10, none⟩ = some (.int .i64 X.d.im) := by have := Hbw.out 10 _ rfl; rwa [Nat.zero_add] at this
      have zbw_11 : w11.cell? ⟨w6.heap.size, 11, none⟩ = some (.int .i64 X.d.den) := by have := Hbw.out 11 _ rfl; rwa [Nat.zero_add] at this
      cases t
      · skip
        go_wp2_with fail
        go_ret
        exact ⟨rfl, (by (repeat' first | (with_reducible exact HB.out) | with_reducible refine setCells_below _ _ _ ?_ (by first | omega | (simp <;> omega)) | with_reducible refine Below.setCell ?_ (by show _ ≤ _; first | omega | (simp <;> omega) | simp) _ | with_reducible refine Below.alloc ?_ (by first | omega | (simp <;> omega)) _ | with_reducible apply Below.drew))⟩
      cases y
      · skip
        go_wp2_with fail
        go_ret
        exact ⟨rfl, (by (repeat' first | (with_reducible exact HB.out) | with_reducible refine setCells_below _ _ _ ?_ (by first | omega | (simp <;> omega)) | with_reducible refine Below.setCell ?_ (by show _ ≤ _; first | omega | (simp <;> omega) | simp) _ | with_reducible refine Below.alloc ?_ (by first | omega | (simp <;> omega)) _ | with_reducible apply Below.drew))⟩
      cases z
      · skip
        go_wp2_with fail
        go_ret
        exact ⟨rfl, (by (repeat' first | (with_reducible exact HB.out) | with_reducible refine setCells_below _ _ _ ?_ (by first | omega | (simp <;> omega)) | with_reducible refine Below.setCell ?_ (by show _ ≤ _; first | omega | (simp <;> omega) | simp) _ | with_reducible refine Below.alloc ?_ (by first | omega | (simp <;> omega)) _ | with_reducible apply Below.drew))⟩
      cases o1
      · skip
        go_wp2_with fail
        go_ret
        exact ⟨rfl, (by (repeat' first | (with_reducible exact HB.out) | with_reducible refine setCells_below _ _ _ ?_ (by first | omega | (simp <;> omega)) | with_reducible refine Below.setCell ?_ (by show _ ≤ _; first | omega | (simp <;> omega) | simp) _ | with_reducible refine Below.alloc ?_ (by first | omega | (simp <;> omega)) _ | with_reducible apply Below.drew))⟩
      have e := HDN.out rfl rfl rfl rfl
      subst e
      go_wp2_with fail
      go_ret
      exact ⟨rfl, (by (repeat' first | (with_reducible exact HB.out) | with_reducible refine setCells_below _ _ _ ?_ (by first | omega | (simp <;> omega)) | with_reducible refine Below.setCell ?_ (by show _ ≤ _; first | omega | (simp <;> omega) | simp) _ | with_reducible refine Below.alloc ?_ (by first | omega | (simp <;> omega)) _ | with_reducible apply Below.drew))⟩

set_option maxRecDepth 100000 in
theorem lifted_FnMatTimes (os : Os) (started : os.Started) (H : Type) (enc : TypeId × Value → H) :
    ReturnsInHanded {} Try.checked os 6 .any (Rows.fnMatTimesSpec.pre6 enc Try.prog Try.f6 Rows.fnMatTimesRow.domain false) (Rows.fnMatTimesSpec.post enc Try.prog Try.f6 false true false false) := by
  refine returnsInHanded_of_change (C := Try.checked) Try.own started (by kernel_rfl) Try.func6
    (ChangeSpec.witness6 (enc := enc) (C := Try.checked) false ⟨#[], #[.slice none 0 0], []⟩ 8 (by kernel_rfl) (by kernel_rfl) (by kernel_rfl) (by kernel_rfl)) ?_
  intro W base args ds gs before hval0 hW hcnd _
  have hval : ∀ (j : Nat) t v, Try.f6.params[j]? = some t → args[j]? = some v → Value.okWide Try.prog W .any base t v := hval0
  have hW' := hW
  obtain ⟨p, q, hA0, hV, rfl, hfz, hnd⟩ := hW
  have hA : DataW.TrodAll enc Try.prog W 0 (fun _ => true) true Try.f6.params.toList args.toList ds p := hA0
  rw [Try.params6] at hA hval
  obtain ⟨v0, d0, rfl, rfl, h0⟩ := trodAll_one hA
  obtain ⟨rfl, rfl⟩ := trodVars_none hV
  have h0k := h0
  obtain ⟨fuel, hf⟩ := h0
  clear hA0 hval0
  simp only [List.append_nil] at hW'
  have hlt : ∀ x ∈ p, x.block < W.heap.size := fun x hx => by simpa using hW'.lt x hx
  obtain ⟨a0, len, cap, rfl⟩ := okWide_slice Try.underlying22 (hval 0 22 v0 rfl rfl)
  obtain ⟨hcap, HC⟩ := open_code hf hlt
  refine (walk_FnMatTimes a0 len cap W hcap HC).mono fun e W' ⟨he, hb⟩ => ?_
  subst he
  refine ⟨_, rfl, _, _, _, [], p, [], hW', trodAll_mk1 (shut_bool Try.underlying4 _), trodAll_mk1 (Below.trod Try.laidOut (by kernel_rfl) (of_decide_eq_true (by kernel_rfl)) h0k hb (fun x hx => hlt x (by simp [hx]))), rfl, hb.frame _, fun h => by cases h⟩

/-- THE STATEMENT. -/
theorem holds_FnMatTimes : Rows.FnMatTimesSaid :=
  OpenClaim.holds_of_wide 6 Try.f6 rfl rfl rfl rfl rfl rfl rfl ⟨rfl, rfl, rfl, rfl, rfl⟩ rfl rfl rfl rfl rfl (by kernel_rfl) Try.func6 (by kernel_rfl)
    (of_decide_eq_true (by kernel_rfl)) (by unfold Func.isWrapper; first | (rw [if_pos (by decide +kernel)]; kernel_rfl) | (rw [if_neg (by decide +kernel)]; exact ⟨rfl, rfl⟩))
    (fun os started H enc _ => lifted_FnMatTimes os started H enc)
end Go.Proofs.Ytcpdapfcbnhgaaa
