/- Alike light is alike both ways. -/
import Derived.Test.YtamdjgehmmogjaaDW
import Derived.Test.YtamdjgehmmogjaaSL
import Derived.Test.YtamdjgehmmogjaaQS
import Derived.Test.YtamdjgehmmogjaaDAS
set_option maxRecDepth 100000
namespace Go.Proofs.Ytamdjgehmmogjaa
open Go.ChangeShapes Go.WideShapes Go.ChangeAt Go.RowKit Pol

set_option maxRecDepth 100000 in
set_option maxHeartbeats 40000000 in
theorem walk_FnStokesAlike (a0 : Option Addr) (len cap : Nat) (w : World) (hcap : len ≤ cap) (HC : Code w.heap.size w a0 len) :
    Calls Try.prog 6 #[.slice a0 len cap] w fun e w' => e = .returned (.bool true) ∧ Below w.heap.size w w' := by
  by_cases hbig : 1048576 < len
  · have h1 : (1048576 : Int) < (len : Int) := by omega
    go_enter Try.func6, Try.ntmps6
    go_wp2
    go_ret
    exact ⟨rfl, Below.refl _ _⟩
  have h1 : ¬ (1048576 : Int) < (len : Int) := by omega
  have HB : Hid (Below w.heap.size w w) := Below.refl _ _
  go_enter Try.func6, Try.ntmps6
  go_wp2_with fail
  refine (DrawStokesAlike_any a0 len cap _ hcap HC).mono ?_
  rintro e w1 ⟨a, b, rfl, hb⟩
  have HB := Lib.hid (show Below w.heap.size w w1 from HB.out.trans ((show Below _ _ _ from (Below.refl _ _)).trans (hb.mono (by first | omega | (simp <;> omega)))))
  have hz1 := hb.size
  (try simp at hz1)
  clear hb
  cases hl : gSAl a b
  · skip
    go_wp2_with (first | ((with_reducible refine wpList_load_mid ?kl11 42 ?kl1x ?kl12 (w1.heap.size) 0 ?kl13 [.int .i64 a.a.re, .int .i64 a.a.im, .int .i64 a.a.den, .int .i64 a.b.re, .int .i64 a.b.im, .int .i64 a.b.den, .int .i64 a.c.re, .int .i64 a.c.im, .int .i64 a.c.den, .int .i64 a.d.re, .int .i64 a.d.im, .int .i64 a.d.den] ?kl1d ?kl14 ?kl15 ?kl16 ?kl17 ?kl18); (case kl12 => rfl); (case kl11 => rfl); (case kl13 => rfl); (case kl14 => (exact (World.rangeAt_alloc (rangeAt_new _ _ _) _))); (case kl15 => exact Try.underlying42); (case kl16 => rfl); (case kl17 => kernel_rfl)) | ((with_reducible refine wpList_load_mid ?kl21 42 ?kl2x ?kl22 (w1.heap.size + 1) 0 ?kl23 [.int .i64 b.a.re, .int .i64 b.a.im, .int .i64 b.a.den, .int .i64 b.b.re, .int .i64 b.b.im, .int .i64 b.b.den, .int .i64 b.c.re, .int .i64 b.c.im, .int .i64 b.c.den, .int .i64 b.d.re, .int .i64 b.d.im, .int .i64 b.d.den] ?kl2d ?kl24 ?kl25 ?kl26 ?kl27 ?kl28); (case kl22 => rfl); (case kl21 => rfl); (case kl23 => rfl); (case kl24 => (exact (rangeAt_nw (by simp)))); (case kl25 => exact Try.underlying42); (case kl26 => rfl); (case kl27 => kernel_rfl)))
    refine (isal_any a b _).mono ?_
    rintro e w2 ho
    rw [hl] at ho
    obtain ⟨rfl, hb⟩ : e = .returned (.bool false) ∧ Below _ _ _ := (id ho)
    clear ho
    have HB := Lib.hid (show Below w.heap.size w w2 from HB.out.trans ((show Below _ _ _ from (((Below.refl _ _).alloc (by first | omega | (simp; done) | (simp <;> omega)) _).alloc (by first | omega | (simp; done) | (simp <;> omega)) _)).trans (hb.mono (by first | omega | (simp <;> omega)))))
    have Ha : Hid (w2.rangeAt (w1.heap.size) 0 [.int .i64 a.a.re, .int .i64 a.a.im, .int .i64 a.a.den, .int .i64 a.b.re, .int .i64 a.b.im, .int .i64 a.b.den, .int .i64 a.c.re, .int .i64 a.c.im, .int .i64 a.c.den, .int .i64 a.d.re, .int .i64 a.d.im, .int .i64 a.d.den]) := rangeAt_below (World.rangeAt_alloc (rangeAt_new _ _ _) _) hb (by first | omega | (simp; done) | (simp <;> omega))
    have Hb : Hid (w2.rangeAt (w1.heap.size + 1) 0 [.int .i64 b.a.re, .int .i64 b.a.im, .int .i64 b.a.den, .int .i64 b.b.re, .int .i64 b.b.im, .int .i64 b.b.den, .int .i64 b.c.re, .int .i64 b.c.im, .int .i64 b.c.den, .int .i64 b.d.re, .int .i64 b.d.im, .int .i64 b.d.den]) := rangeAt_below (rangeAt_nw (by simp)) hb (by first | omega | (simp; done) | (simp <;> omega))
    have hz2 := hb.size
    (try simp at hz2)
    clear hb
    have nA0 : w1.heap.size < w2.heap.size := by omega
    have nB0 : ¬ w1.heap.size = w2.heap.size := by omega
    have nC0 : ¬ w2.heap.size = w1.heap.size := by omega
    have nA1 : w1.heap.size + 1 < w2.heap.size := by omega
    have nB1 : ¬ w1.heap.size + 1 = w2.heap.size := by omega
    have nC1 : ¬ w2.heap.size = w1.heap.size + 1 := by omega
    go_wp2_with (first | ((with_reducible refine wpList_load_mid ?kl31 42 ?kl3x ?kl32 (w1.heap.size) 0 ?kl33 [.int .i64 a.a.re, .int .i64 a.a.im, .int .i64 a.a.den, .int .i64 a.b.re, .int .i64 a.b.im, .int .i64 a.b.den, .int .i64 a.c.re, .int .i64 a.c.im, .int .i64 a.c.den, .int .i64 a.d.re, .int .i64 a.d.im, .int .i64 a.d.den] ?kl3d ?kl34 ?kl35 ?kl36 ?kl37 ?kl38); (case kl32 => rfl); (case kl31 => rfl); (case kl33 => rfl); (case kl34 => (exact Ha.out)); (case kl35 => exact Try.underlying42); (case kl36 => rfl); (case kl37 => kernel_rfl)) | ((with_reducible refine wpList_load_mid ?kl41 42 ?kl4x ?kl42 (w1.heap.size + 1) 0 ?kl43 [.int .i64 b.a.re, .int .i64 b.a.im, .int .i64 b.a.den, .int .i64 b.b.re, .int .i64 b.b.im, .int .i64 b.b.den, .int .i64 b.c.re, .int .i64 b.c.im, .int .i64 b.c.den, .int .i64 b.d.re, .int .i64 b.d.im, .int .i64 b.d.den] ?kl4d ?kl44 ?kl45 ?kl46 ?kl47 ?kl48); (case kl42 => rfl); (case kl41 => rfl); (case kl43 => rfl); (case kl44 => (exact Hb.out)); (case kl45 => exact Try.underlying42); (case kl46 => rfl); (case kl47 => kernel_rfl)))
    refine (ssal_any a b _).mono ?_
    rintro e w3 ho
    rw [hl] at ho
    obtain ⟨rfl, hb⟩ : e = .returned (.bool false) ∧ Below _ _ _ := (id ho)
    clear ho
    have HB := Lib.hid (show Below w.heap.size w w3 from HB.out.trans ((show Below _ _ _ from (Below.refl _ _)).trans (hb.mono (by first | omega | (simp <;> omega)))))
    have Ha : Hid (w3.rangeAt (w1.heap.size) 0 [.int .i64 a.a.re, .int .i64 a.a.im, .int .i64 a.a.den, .int .i64 a.b.re, .int .i64 a.b.im, .int .i64 a.b.den, .int .i64 a.c.re, .int .i64 a.c.im, .int .i64 a.c.den, .int .i64 a.d.re, .int .i64 a.d.im, .int .i64 a.d.den]) := rangeAt_below Ha.out hb (by first | omega | (simp; done) | (simp <;> omega))
    have Hb : Hid (w3.rangeAt (w1.heap.size + 1) 0 [.int .i64 b.a.re, .int .i64 b.a.im, .int .i64 b.a.den, .int .i64 b.b.re, .int .i64 b.b.im, .int .i64 b.b.den, .int .i64 b.c.re, .int .i64 b.c.im, .int .i64 b.c.den, .int .i64 b.d.re, .int .i64 b.d.im, .int .i64 b.d.den]) := rangeAt_below Hb.out hb (by first | omega | (simp; done) | (simp <;> omega))
    have hz3 := hb.size
    (try simp at hz3)
    clear hb
    have nA0 : w1.heap.size < w3.heap.size := by omega
    have nB0 : ¬ w1.heap.size = w3.heap.size := by omega
    have nC0 : ¬ w3.heap.size = w1.heap.size := by omega
    have nA1 : w1.heap.size + 1 < w3.heap.size := by omega
    have nB1 : ¬ w1.heap.size + 1 = w3.heap.size := by omega
    have nC1 : ¬ w3.heap.size = w1.heap.size + 1 := by omega
    go_wp2_with fail
    go_ret
    exact ⟨rfl, (by (repeat' first | (with_reducible exact HB.out) | with_reducible refine setCells_below _ _ _ ?_ (by first | omega | (simp <;> omega)) | with_reducible refine Below.setCell ?_ (by show _ ≤ _; first | omega | (simp <;> omega) | simp) _ | with_reducible refine Below.alloc ?_ (by first | omega | (simp <;> omega)) _ | with_reducible apply Below.drew | with_reducible refine below_drewN ?_ _))⟩
  · skip
    have hl2 : gSAl b a = true := by rw [gSAl_comm]; exact hl
    have hlaw := fun p q r s z => law_salike hl p q r s z
    have HL := Lib.hid hlaw
    clear hlaw
    go_wp2_with (first | ((with_reducible refine wpList_load_mid ?kl51 42 ?kl5x ?kl52 (w1.heap.size) 0 ?kl53 [.int .i64 a.a.re, .int .i64 a.a.im, .int .i64 a.a.den, .int .i64 a.b.re, .int .i64 a.b.im, .int .i64 a.b.den, .int .i64 a.c.re, .int .i64 a.c.im, .int .i64 a.c.den, .int .i64 a.d.re, .int .i64 a.d.im, .int .i64 a.d.den] ?kl5d ?kl54 ?kl55 ?kl56 ?kl57 ?kl58); (case kl52 => rfl); (case kl51 => rfl); (case kl53 => rfl); (case kl54 => (exact (World.rangeAt_alloc (rangeAt_new _ _ _) _))); (case kl55 => exact Try.underlying42); (case kl56 => rfl); (case kl57 => kernel_rfl)) | ((with_reducible refine wpList_load_mid ?kl61 42 ?kl6x ?kl62 (w1.heap.size + 1) 0 ?kl63 [.int .i64 b.a.re, .int .i64 b.a.im, .int .i64 b.a.den, .int .i64 b.b.re, .int .i64 b.b.im, .int .i64 b.b.den, .int .i64 b.c.re, .int .i64 b.c.im, .int .i64 b.c.den, .int .i64 b.d.re, .int .i64 b.d.im, .int .i64 b.d.den] ?kl6d ?kl64 ?kl65 ?kl66 ?kl67 ?kl68); (case kl62 => rfl); (case kl61 => rfl); (case kl63 => rfl); (case kl64 => (exact (rangeAt_nw (by simp)))); (case kl65 => exact Try.underlying42); (case kl66 => rfl); (case kl67 => kernel_rfl)))
    refine (isal_any a b _).mono ?_
    rintro e w2 ho
    rw [hl] at ho
    obtain ⟨rfl, hb⟩ : e = .returned (.bool true) ∧ Below _ _ _ := (id ho)
    clear ho
    have HB := Lib.hid (show Below w.heap.size w w2 from HB.out.trans ((show Below _ _ _ from (((Below.refl _ _).alloc (by first | omega | (simp; done) | (simp <;> omega)) _).alloc (by first | omega | (simp; done) | (simp <;> omega)) _)).trans (hb.mono (by first | omega | (simp <;> omega)))))
    have Ha : Hid (w2.rangeAt (w1.heap.size) 0 [.int .i64 a.a.re, .int .i64 a.a.im, .int .i64 a.a.den, .int .i64 a.b.re, .int .i64 a.b.im, .int .i64 a.b.den, .int .i64 a.c.re, .int .i64 a.c.im, .int .i64 a.c.den, .int .i64 a.d.re, .int .i64 a.d.im, .int .i64 a.d.den]) := rangeAt_below (World.rangeAt_alloc (rangeAt_new _ _ _) _) hb (by first | omega | (simp; done) | (simp <;> omega))
    have Hb : Hid (w2.rangeAt (w1.heap.size + 1) 0 [.int .i64 b.a.re, .int .i64 b.a.im, .int .i64 b.a.den, .int .i64 b.b.re, .int .i64 b.b.im, .int .i64 b.b.den, .int .i64 b.c.re, .int .i64 b.c.im, .int .i64 b.c.den, .int .i64 b.d.re, .int .i64 b.d.im, .int .i64 b.d.den]) := rangeAt_below (rangeAt_nw (by simp)) hb (by first | omega | (simp; done) | (simp <;> omega))
    have hz2 := hb.size
    (try simp at hz2)
    clear hb
    have nA0 : w1.heap.size < w2.heap.size := by omega
    have nB0 : ¬ w1.heap.size = w2.heap.size := by omega
    have nC0 : ¬ w2.heap.size = w1.heap.size := by omega
    have nA1 : w1.heap.size + 1 < w2.heap.size := by omega
    have nB1 : ¬ w1.heap.size + 1 = w2.heap.size := by omega
    have nC1 : ¬ w2.heap.size = w1.heap.size + 1 := by omega
    go_wp2_with (first | ((with_reducible refine wpList_load_mid ?kl71 42 ?kl7x ?kl72 (w1.heap.size) 0 ?kl73 [.int .i64 a.a.re, .int .i64 a.a.im, .int .i64 a.a.den, .int .i64 a.b.re, .int .i64 a.b.im, .int .i64 a.b.den, .int .i64 a.c.re, .int .i64 a.c.im, .int .i64 a.c.den, .int .i64 a.d.re, .int .i64 a.d.im, .int .i64 a.d.den] ?kl7d ?kl74 ?kl75 ?kl76 ?kl77 ?kl78); (case kl72 => rfl); (case kl71 => rfl); (case kl73 => rfl); (case kl74 => (exact Ha.out)); (case kl75 => exact Try.underlying42); (case kl76 => rfl); (case kl77 => kernel_rfl)) | ((with_reducible refine wpList_load_mid ?kl81 42 ?kl8x ?kl82 (w1.heap.size + 1) 0 ?kl83 [.int .i64 b.a.re, .int .i64 b.a.im, .int .i64 b.a.den, .int .i64 b.b.re, .int .i64 b.b.im, .int .i64 b.b.den, .int .i64 b.c.re, .int .i64 b.c.im, .int .i64 b.c.den, .int .i64 b.d.re, .int .i64 b.d.im, .int .i64 b.d.den] ?kl8d ?kl84 ?kl85 ?kl86 ?kl87 ?kl88); (case kl82 => rfl); (case kl81 => rfl); (case kl83 => rfl); (case kl84 => (exact Hb.out)); (case kl85 => exact Try.underlying42); (case kl86 => rfl); (case kl87 => kernel_rfl)))
    refine (ssal_any a b _).mono ?_
    rintro e w3 ho
    rw [hl] at ho
    obtain ⟨rfl, hb⟩ : e = .returned (.bool true) ∧ Below _ _ _ := (id ho)
    clear ho
    have HB := Lib.hid (show Below w.heap.size w w3 from HB.out.trans ((show Below _ _ _ from (Below.refl _ _)).trans (hb.mono (by first | omega | (simp <;> omega)))))
    have Ha : Hid (w3.rangeAt (w1.heap.size) 0 [.int .i64 a.a.re, .int .i64 a.a.im, .int .i64 a.a.den, .int .i64 a.b.re, .int .i64 a.b.im, .int .i64 a.b.den, .int .i64 a.c.re, .int .i64 a.c.im, .int .i64 a.c.den, .int .i64 a.d.re, .int .i64 a.d.im, .int .i64 a.d.den]) := rangeAt_below Ha.out hb (by first | omega | (simp; done) | (simp <;> omega))
    have Hb : Hid (w3.rangeAt (w1.heap.size + 1) 0 [.int .i64 b.a.re, .int .i64 b.a.im, .int .i64 b.a.den, .int .i64 b.b.re, .int .i64 b.b.im, .int .i64 b.b.den, .int .i64 b.c.re, .int .i64 b.c.im, .int .i64 b.c.den, .int .i64 b.d.re, .int .i64 b.d.im, .int .i64 b.d.den]) := rangeAt_below Hb.out hb (by first | omega | (simp; done) | (simp <;> omega))
    have hz3 := hb.size
    (try simp at hz3)
    clear hb
    have nA0 : w1.heap.size < w3.heap.size := by omega
    have nB0 : ¬ w1.heap.size = w3.heap.size := by omega
    have nC0 : ¬ w3.heap.size = w1.heap.size := by omega
    have nA1 : w1.heap.size + 1 < w3.heap.size := by omega
    have nB1 : ¬ w1.heap.size + 1 = w3.heap.size := by omega
    have nC1 : ¬ w3.heap.size = w1.heap.size + 1 := by omega
    obtain ⟨s1, hs1⟩ : ∃ zf, zf = (sSq a).1 := ⟨_, rfl⟩
    obtain ⟨b1, hb1⟩ : ∃ zb, zb = (sSq a).2 := ⟨_, rfl⟩
    have HS1 : Hid (sSq a = (s1, b1)) := by show _ = _; rw [hs1, hb1]
    have HS1b := Lib.hid hb1
    clear hs1 hb1
    go_wp2_with (first | ((with_reducible refine wpList_load_mid ?kl91 42 ?kl9x ?kl92 (w1.heap.size) 0 ?kl93 [.int .i64 a.a.re, .int .i64 a.a.im, .int .i64 a.a.den, .int .i64 a.b.re, .int .i64 a.b.im, .int .i64 a.b.den, .int .i64 a.c.re, .int .i64 a.c.im, .int .i64 a.c.den, .int .i64 a.d.re, .int .i64 a.d.im, .int .i64 a.d.den] ?kl9d ?kl94 ?kl95 ?kl96 ?kl97 ?kl98); (case kl92 => rfl); (case kl91 => rfl); (case kl93 => rfl); (case kl94 => (exact Ha.out)); (case kl95 => exact Try.underlying42); (case kl96 => rfl); (case kl97 => kernel_rfl)))
    refine (isq_any a _).mono ?_
    rintro e w4 ho
    rw [HS1.out] at ho
    obtain ⟨rfl, hb⟩ : e = .returned (.tuple #[.agg #[.int .i64 s1.re, .int .i64 s1.im, .int .i64 s1.den], .bool b1]) ∧ Below _ _ _ := ho.fn
    clear ho
    have HB := Lib.hid (show Below w.heap.size w w4 from HB.out.trans ((show Below _ _ _ from (Below.refl _ _)).trans (hb.mono (by first | omega | (simp <;> omega)))))
    have Ha : Hid (w4.rangeAt (w1.heap.size) 0 [.int .i64 a.a.re, .int .i64 a.a.im, .int .i64 a.a.den, .int .i64 a.b.re, .int .i64 a.b.im, .int .i64 a.b.den, .int .i64 a.c.re, .int .i64 a.c.im, .int .i64 a.c.den, .int .i64 a.d.re, .int .i64 a.d.im, .int .i64 a.d.den]) := rangeAt_below Ha.out hb (by first | omega | (simp; done) | (simp <;> omega))
    have Hb : Hid (w4.rangeAt (w1.heap.size + 1) 0 [.int .i64 b.a.re, .int .i64 b.a.im, .int .i64 b.a.den, .int .i64 b.b.re, .int .i64 b.b.im, .int .i64 b.b.den, .int .i64 b.c.re, .int .i64 b.c.im, .int .i64 b.c.den, .int .i64 b.d.re, .int .i64 b.d.im, .int .i64 b.d.den]) := rangeAt_below Hb.out hb (by first | omega | (simp; done) | (simp <;> omega))
    have hz4 := hb.size
    (try simp at hz4)
    clear hb
    have nA0 : w1.heap.size < w4.heap.size := by omega
    have nB0 : ¬ w1.heap.size = w4.heap.size := by omega
    have nC0 : ¬ w4.heap.size = w1.heap.size := by omega
    have nA1 : w1.heap.size + 1 < w4.heap.size := by omega
    have nB1 : ¬ w1.heap.size + 1 = w4.heap.size := by omega
    have nC1 : ¬ w4.heap.size = w1.heap.size + 1 := by omega
    obtain ⟨s2, hs2⟩ : ∃ zf, zf = (sSq b).1 := ⟨_, rfl⟩
    obtain ⟨b2, hb2⟩ : ∃ zb, zb = (sSq b).2 := ⟨_, rfl⟩
    have HS2 : Hid (sSq b = (s2, b2)) := by show _ = _; rw [hs2, hb2]
    have HS2b := Lib.hid hb2
    clear hs2 hb2
    go_wp2_with (first | ((with_reducible refine wpList_load_mid ?kl101 42 ?kl10x ?kl102 (w1.heap.size + 1) 0 ?kl103 [.int .i64 b.a.re, .int .i64 b.a.im, .int .i64 b.a.den, .int .i64 b.b.re, .int .i64 b.b.im, .int .i64 b.b.den, .int .i64 b.c.re, .int .i64 b.c.im, .int .i64 b.c.den, .int .i64 b.d.re, .int .i64 b.d.im, .int .i64 b.d.den] ?kl10d ?kl104 ?kl105 ?kl106 ?kl107 ?kl108); (case kl102 => rfl); (case kl101 => rfl); (case kl103 => rfl); (case kl104 => (exact (World.rangeAt_alloc Hb.out _))); (case kl105 => exact Try.underlying42); (case kl106 => rfl); (case kl107 => kernel_rfl)))
    refine (isq_any b _).mono ?_
    rintro e w5 ho
    rw [HS2.out] at ho
    obtain ⟨rfl, hb⟩ : e = .returned (.tuple #[.agg #[.int .i64 s2.re, .int .i64 s2.im, .int .i64 s2.den], .bool b2]) ∧ Below _ _ _ := ho.fn
    clear ho
    have HB := Lib.hid (show Below w.heap.size w w5 from HB.out.trans ((show Below _ _ _ from ((Below.refl _ _).alloc (by first | omega | (simp; done) | (simp <;> omega)) _)).trans (hb.mono (by first | omega | (simp <;> omega)))))
    have Ha : Hid (w5.rangeAt (w1.heap.size) 0 [.int .i64 a.a.re, .int .i64 a.a.im, .int .i64 a.a.den, .int .i64 a.b.re, .int .i64 a.b.im, .int .i64 a.b.den, .int .i64 a.c.re, .int .i64 a.c.im, .int .i64 a.c.den, .int .i64 a.d.re, .int .i64 a.d.im, .int .i64 a.d.den]) := rangeAt_below (World.rangeAt_alloc Ha.out _) hb (by first | omega | (simp; done) | (simp <;> omega))
    have Hb : Hid (w5.rangeAt (w1.heap.size + 1) 0 [.int .i64 b.a.re, .int .i64 b.a.im, .int .i64 b.a.den, .int .i64 b.b.re, .int .i64 b.b.im, .int .i64 b.b.den, .int .i64 b.c.re, .int .i64 b.c.im, .int .i64 b.c.den, .int .i64 b.d.re, .int .i64 b.d.im, .int .i64 b.d.den]) := rangeAt_below (World.rangeAt_alloc Hb.out _) hb (by first | omega | (simp; done) | (simp <;> omega))
    have Hs1 : Hid (w5.rangeAt (w4.heap.size) 0 [.int .i64 s1.re, .int .i64 s1.im, .int .i64 s1.den]) := rangeAt_below (rangeAt_new _ _ _) hb (by first | omega | (simp; done) | (simp <;> omega))
    have hz5 := hb.size
    (try simp at hz5)
    clear hb
    have nA0 : w1.heap.size < w5.heap.size := by omega
    have nB0 : ¬ w1.heap.size = w5.heap.size := by omega
    have nC0 : ¬ w5.heap.size = w1.heap.size := by omega
    have nA1 : w1.heap.size + 1 < w5.heap.size := by omega
    have nB1 : ¬ w1.heap.size + 1 = w5.heap.size := by omega
    have nC1 : ¬ w5.heap.size = w1.heap.size + 1 := by omega
    have nA2 : w4.heap.size < w5.heap.size := by omega
    have nB2 : ¬ w4.heap.size = w5.heap.size := by omega
    have nC2 : ¬ w5.heap.size = w4.heap.size := by omega
    have za_0 : w5.cell? ⟨w1.heap.size, 0, none⟩ = some (.int .i64 a.a.re) := by have := Ha.out 0 _ rfl; rwa [Nat.zero_add] at this
    have za_1 : w5.cell? ⟨w1.heap.size, 1, none⟩ = some (.int .i64 a.a.im) := by have := Ha.out 1 _ rfl; rwa [Nat.zero_add] at this
    have za_2 : w5.cell? ⟨w1.heap.size, 2, none⟩ = some (.int .i64 a.a.den) := by have := Ha.out 2 _ rfl; rwa [Nat.zero_add] at this
    have za_3 : w5.cell? ⟨w1.heap.size, 3, none⟩ = some (.int .i64 a.b.re) := by have := Ha.out 3 _ rfl; rwa [Nat.zero_add] at this
    have za_4 : w5.cell? ⟨w1.heap.size, 4, none⟩ = some (.int .i64 a.b.im) := by have := Ha.out 4 _ rfl; rwa [Nat.zero_add] at this
    have za_5 : w5.cell? ⟨w1.heap.size, 5, none⟩ = some (.int .i64 a.b.den) := by have := Ha.out 5 _ rfl; rwa [Nat.zero_add] at this
    have za_6 : w5.cell? ⟨w1.heap.size, 6, none⟩ = some (.int .i64 a.c.re) := by have := Ha.out 6 _ rfl; rwa [Nat.zero_add] at this
    have za_7 : w5.cell? ⟨w1.heap.size, 7, none⟩ = some (.int .i64 a.c.im) := by have := Ha.out 7 _ rfl; rwa [Nat.zero_add] at this
    have za_8 : w5.cell? ⟨w1.heap.size, 8, none⟩ = some (.int .i64 a.c.den) := by have := Ha.out 8 _ rfl; rwa [Nat.zero_add] at this
    have za_9 : w5.cell? ⟨w1.heap.size, 9, none⟩ = some (.int .i64 a.d.re) := by have := Ha.out 9 _ rfl; rwa [Nat.zero_add] at this
    have za_10 : w5.cell? ⟨w1.heap.size, 10, none⟩ = some (.int .i64 a.d.im) := by have := Ha.out 10 _ rfl; rwa [Nat.zero_add] at this
    have za_11 : w5.cell? ⟨w1.heap.size, 11, none⟩ = some (.int .i64 a.d.den) := by have := Ha.out 11 _ rfl; rwa [Nat.zero_add] at this
    obtain ⟨t1, ht1⟩ : ∃ zf, zf = (fTimes a.a a.a).1 := ⟨_, rfl⟩
    obtain ⟨b3, hb3⟩ : ∃ zb, zb = (fTimes a.a a.a).2 := ⟨_, rfl⟩
    have HT1 : Hid (fTimes a.a a.a = (t1, b3)) := by show _ = _; rw [ht1, hb3]
    have HT1b := Lib.hid hb3
    clear ht1 hb3
    go_wp2_with fail
    refine (times_fr a.a a.a _).mono ?_
    rintro e w6 ho
    rw [HT1.out] at ho
    obtain ⟨rfl, hb⟩ : e = .returned (.tuple #[.agg #[.int .i64 t1.re, .int .i64 t1.im, .int .i64 t1.den], .bool b3]) ∧ Below _ _ _ := ho.fn
    clear ho
    have HB := Lib.hid (show Below w.heap.size w w6 from HB.out.trans ((show Below _ _ _ from ((Below.refl _ _).alloc (by first | omega | (simp; done) | (simp <;> omega)) _)).trans (hb.mono (by first | omega | (simp <;> omega)))))
    have Ha : Hid (w6.rangeAt (w1.heap.size) 0 [.int .i64 a.a.re, .int .i64 a.a.im, .int .i64 a.a.den, .int .i64 a.b.re, .int .i64 a.b.im, .int .i64 a.b.den, .int .i64 a.c.re, .int .i64 a.c.im, .int .i64 a.c.den, .int .i64 a.d.re, .int .i64 a.d.im, .int .i64 a.d.den]) := rangeAt_below (World.rangeAt_alloc Ha.out _) hb (by first | omega | (simp; done) | (simp <;> omega))
    have Hb : Hid (w6.rangeAt (w1.heap.size + 1) 0 [.int .i64 b.a.re, .int .i64 b.a.im, .int .i64 b.a.den, .int .i64 b.b.re, .int .i64 b.b.im, .int .i64 b.b.den, .int .i64 b.c.re, .int .i64 b.c.im, .int .i64 b.c.den, .int .i64 b.d.re, .int .i64 b.d.im, .int .i64 b.d.den]) := rangeAt_below (World.rangeAt_alloc Hb.out _) hb (by first | omega | (simp; done) | (simp <;> omega))
    have Hs1 : Hid (w6.rangeAt (w4.heap.size) 0 [.int .i64 s1.re, .int .i64 s1.im, .int .i64 s1.den]) := rangeAt_below (World.rangeAt_alloc Hs1.out _) hb (by first | omega | (simp; done) | (simp <;> omega))
    have Hs2 : Hid (w6.rangeAt (w5.heap.size) 0 [.int .i64 s2.re, .int .i64 s2.im, .int .i64 s2.den]) := rangeAt_below (rangeAt_new _ _ _) hb (by first | omega | (simp; done) | (simp <;> omega))
    have hz6 := hb.size
    (try simp at hz6)
    clear hb
    have nA0 : w1.heap.size < w6.heap.size := by omega
    have nB0 : ¬ w1.heap.size = w6.heap.size := by omega
    have nC0 : ¬ w6.heap.size = w1.heap.size := by omega
    have nA1 : w1.heap.size + 1 < w6.heap.size := by omega
    have nB1 : ¬ w1.heap.size + 1 = w6.heap.size := by omega
    have nC1 : ¬ w6.heap.size = w1.heap.size + 1 := by omega
    have nA2 : w4.heap.size < w6.heap.size := by omega
    have nB2 : ¬ w4.heap.size = w6.heap.size := by omega
    have nC2 : ¬ w6.heap.size = w4.heap.size := by omega
    have nA3 : w5.heap.size < w6.heap.size := by omega
    have nB3 : ¬ w5.heap.size = w6.heap.size := by omega
    have nC3 : ¬ w6.heap.size = w5.heap.size := by omega
    have zb_0 : w6.cell? ⟨w1.heap.size + 1, 0, none⟩ = some (.int .i64 b.a.re) := by have := Hb.out 0 _ rfl; rwa [Nat.zero_add] at this
    have zb_1 : w6.cell? ⟨w1.heap.size + 1, 1, none⟩ = some (.int .i64 b.a.im) := by have := Hb.out 1 _ rfl; rwa [Nat.zero_add] at this
    have zb_2 : w6.cell? ⟨w1.heap.size + 1, 2, none⟩ = some (.int .i64 b.a.den) := by have := Hb.out 2 _ rfl; rwa [Nat.zero_add] at this
    have zb_3 : w6.cell? ⟨w1.heap.size + 1, 3, none⟩ = some (.int .i64 b.b.re) := by have := Hb.out 3 _ rfl; rwa [Nat.zero_add] at this
    have zb_4 : w6.cell? ⟨w1.heap.size + 1, 4, none⟩ = some (.int .i64 b.b.im) := by have := Hb.out 4 _ rfl; rwa [Nat.zero_add] at this
    have zb_5 : w6.cell? ⟨w1.heap.size + 1, 5, none⟩ = some (.int .i64 b.b.den) := by have := Hb.out 5 _ rfl; rwa [Nat.zero_add] at this
    have zb_6 : w6.cell? ⟨w1.heap.size + 1, 6, none⟩ = some (.int .i64 b.c.re) := by have := Hb.out 6 _ rfl; rwa [Nat.zero_add] at this
    have zb_7 : w6.cell? ⟨w1.heap.size + 1, 7, none⟩ = some (.int .i64 b.c.im) := by have := Hb.out 7 _ rfl; rwa [Nat.zero_add] at this
    have zb_8 : w6.cell? ⟨w1.heap.size + 1, 8, none⟩ = some (.int .i64 b.c.den) := by have := Hb.out 8 _ rfl; rwa [Nat.zero_add] at this
    have zb_9 : w6.cell? ⟨w1.heap.size + 1, 9, none⟩ = some (.int .i64 b.d.re) := by have := Hb.out 9 _ rfl; rwa [Nat.zero_add] at this
    have zb_10 : w6.cell? ⟨w1.heap.size + 1, 10, none⟩ = some (.int .i64 b.d.im) := by have := Hb.out 10 _ rfl; rwa [Nat.zero_add] at this
    have zb_11 : w6.cell? ⟨w1.heap.size + 1, 11, none⟩ = some (.int .i64 b.d.den) := by have := Hb.out 11 _ rfl; rwa [Nat.zero_add] at this
    obtain ⟨t2, ht2⟩ : ∃ zf, zf = (fTimes b.a b.a).1 := ⟨_, rfl⟩
    obtain ⟨b4, hb4⟩ : ∃ zb, zb = (fTimes b.a b.a).2 := ⟨_, rfl⟩
    have HT2 : Hid (fTimes b.a b.a = (t2, b4)) := by show _ = _; rw [ht2, hb4]
    have HT2b := Lib.hid hb4
    clear ht2 hb4
    go_wp2_with fail
    refine (times_fr b.a b.a _).mono ?_
    rintro e w7 ho
    rw [HT2.out] at ho
    obtain ⟨rfl, hb⟩ : e = .returned (.tuple #[.agg #[.int .i64 t2.re, .int .i64 t2.im, .int .i64 t2.den], .bool b4]) ∧ Below _ _ _ := ho.fn
    clear ho
    have HB := Lib.hid (show Below w.heap.size w w7 from HB.out.trans ((show Below _ _ _ from ((Below.refl _ _).alloc (by first | omega | (simp; done) | (simp <;> omega)) _)).trans (hb.mono (by first | omega | (simp <;> omega)))))
    have Ha : Hid (w7.rangeAt (w1.heap.size) 0 [.int .i64 a.a.re, .int .i64 a.a.im, .int .i64 a.a.den, .int .i64 a.b.re, .int .i64 a.b.im, .int .i64 a.b.den, .int .i64 a.c.re, .int .i64 a.c.im, .int .i64 a.c.den, .int .i64 a.d.re, .int .i64 a.d.im, .int .i64 a.d.den]) := rangeAt_below (World.rangeAt_alloc Ha.out _) hb (by first | omega | (simp; done) | (simp <;> omega))
    have Hb : Hid (w7.rangeAt (w1.heap.size + 1) 0 [.int .i64 b.a.re, .int .i64 b.a.im, .int .i64 b.a.den, .int .i64 b.b.re, .int .i64 b.b.im, .int .i64 b.b.den, .int .i64 b.c.re, .int .i64 b.c.im, .int .i64 b.c.den, .int .i64 b.d.re, .int .i64 b.d.im, .int .i64 b.d.den]) := rangeAt_below (World.rangeAt_alloc Hb.out _) hb (by first | omega | (simp; done) | (simp <;> omega))
    have Hs1 : Hid (w7.rangeAt (w4.heap.size) 0 [.int .i64 s1.re, .int .i64 s1.im, .int .i64 s1.den]) := rangeAt_below (World.rangeAt_alloc Hs1.out _) hb (by first | omega | (simp; done) | (simp <;> omega))
    have Hs2 : Hid (w7.rangeAt (w5.heap.size) 0 [.int .i64 s2.re, .int .i64 s2.im, .int .i64 s2.den]) := rangeAt_below (World.rangeAt_alloc Hs2.out _) hb (by first | omega | (simp; done) | (simp <;> omega))
    have Ht1 : Hid (w7.rangeAt (w6.heap.size) 0 [.int .i64 t1.re, .int .i64 t1.im, .int .i64 t1.den]) := rangeAt_below (rangeAt_new _ _ _) hb (by first | omega | (simp; done) | (simp <;> omega))
    have hz7 := hb.size
    (try simp at hz7)
    clear hb
    have nA0 : w1.heap.size < w7.heap.size := by omega
    have nB0 : ¬ w1.heap.size = w7.heap.size := by omega
    have nC0 : ¬ w7.heap.size = w1.heap.size := by omega
    have nA1 : w1.heap.size + 1 < w7.heap.size := by omega
    have nB1 : ¬ w1.heap.size + 1 = w7.heap.size := by omega
    have nC1 : ¬ w7.heap.size = w1.heap.size + 1 := by omega
    have nA2 : w4.heap.size < w7.heap.size := by omega
    have nB2 : ¬ w4.heap.size = w7.heap.size := by omega
    have nC2 : ¬ w7.heap.size = w4.heap.size := by omega
    have nA3 : w5.heap.size < w7.heap.size := by omega
    have nB3 : ¬ w5.heap.size = w7.heap.size := by omega
    have nC3 : ¬ w7.heap.size = w5.heap.size := by omega
    have nA4 : w6.heap.size < w7.heap.size := by omega
    have nB4 : ¬ w6.heap.size = w7.heap.size := by omega
    have nC4 : ¬ w7.heap.size = w6.heap.size := by omega
    have za_0 : w7.cell? ⟨w1.heap.size, 0, none⟩ = some (.int .i64 a.a.re) := by have := Ha.out 0 _ rfl; rwa [Nat.zero_add] at this
    cases b1
    · skip
      go_wp2_with fail
      refine wp_region_held_drew (S := (fun w' => (w'.cell? ⟨w1.heap.size + 1, 0, none⟩ = some (.int .i64 b.a.re) ∧ w'.cell? ⟨w1.heap.size + 1, 1, none⟩ = some (.int .i64 b.a.im) ∧ w'.cell? ⟨w1.heap.size + 1, 2, none⟩ = some (.int .i64 b.a.den) ∧ w'.cell? ⟨w1.heap.size + 1, 3, none⟩ = some (.int .i64 b.b.re) ∧ w'.cell? ⟨w1.heap.size + 1, 4, none⟩ = some (.int .i64 b.b.im) ∧ w'.cell? ⟨w1.heap.size + 1, 5, none⟩ = some (.int .i64 b.b.den) ∧ w'.cell? ⟨w1.heap.size + 1, 6, none⟩ = some (.int .i64 b.c.re) ∧ w'.cell? ⟨w1.heap.size + 1, 7, none⟩ = some (.int .i64 b.c.im) ∧ w'.cell? ⟨w1.heap.size + 1, 8, none⟩ = some (.int .i64 b.c.den) ∧ w'.cell? ⟨w1.heap.size + 1, 9, none⟩ = some (.int .i64 b.d.re) ∧ w'.cell? ⟨w1.heap.size + 1, 10, none⟩ = some (.int .i64 b.d.im) ∧ w'.cell? ⟨w1.heap.size + 1, 11, none⟩ = some (.int .i64 b.d.den)) ∧ (w'.cell? ⟨w1.heap.size, 0, none⟩ = some (.int .i64 a.a.re) ∧ w'.cell? ⟨w1.heap.size, 1, none⟩ = some (.int .i64 a.a.im) ∧ w'.cell? ⟨w1.heap.size, 2, none⟩ = some (.int .i64 a.a.den) ∧ w'.cell? ⟨w1.heap.size, 3, none⟩ = some (.int .i64 a.b.re) ∧ w'.cell? ⟨w1.heap.size, 4, none⟩ = some (.int .i64 a.b.im) ∧ w'.cell? ⟨w1.heap.size, 5, none⟩ = some (.int .i64 a.b.den) ∧ w'.cell? ⟨w1.heap.size, 6, none⟩ = some (.int .i64 a.c.re) ∧ w'.cell? ⟨w1.heap.size, 7, none⟩ = some (.int .i64 a.c.im) ∧ w'.cell? ⟨w1.heap.size, 8, none⟩ = some (.int .i64 a.c.den) ∧ w'.cell? ⟨w1.heap.size, 9, none⟩ = some (.int .i64 a.d.re) ∧ w'.cell? ⟨w1.heap.size, 10, none⟩ = some (.int .i64 a.d.im) ∧ w'.cell? ⟨w1.heap.size, 11, none⟩ = some (.int .i64 a.d.den)))) (by kernel_rfl) (show _ from ⟨(cellsM (show World.rangeAt (World.drew (w7.alloc (.cells #[.int .i64 t2.re, .int .i64 t2.im, .int .i64 t2.den] 24))) (w1.heap.size + 1) 0 [.int .i64 b.a.re, .int .i64 b.a.im, .int .i64 b.a.den, .int .i64 b.b.re, .int .i64 b.b.im, .int .i64 b.b.den, .int .i64 b.c.re, .int .i64 b.c.im, .int .i64 b.c.den, .int .i64 b.d.re, .int .i64 b.d.im, .int .i64 b.d.den] from (World.rangeAt_alloc Hb.out _))), (cellsM (show World.rangeAt (World.drew (w7.alloc (.cells #[.int .i64 t2.re, .int .i64 t2.im, .int .i64 t2.den] 24))) (w1.heap.size) 0 [.int .i64 a.a.re, .int .i64 a.a.im, .int .i64 a.a.den, .int .i64 a.b.re, .int .i64 a.b.im, .int .i64 a.b.den, .int .i64 a.c.re, .int .i64 a.c.im, .int .i64 a.c.den, .int .i64 a.d.re, .int .i64 a.d.im, .int .i64 a.d.den] from (World.rangeAt_alloc Ha.out _)))⟩) (fun hHeld => ?_)
      refine wpAnyH_take (i := 0) (v := ?_) rfl (by kernel_rfl) (by kernel_rfl) (by kernel_rfl) (fun _ _ _ h => h) (Or.inl ⟨by rfl, ?_⟩) (by assumption) ?_
      rotate_left
      (focus (intro w hSw; (try dsimp only at hSw); go_simp; (try with_reducible rfl)))
      (try simp only [Act.put, List.getElem_toArray, List.getElem_cons_succ, List.getElem_cons_zero, List.setIfInBounds_toArray, List.set_cons_zero, List.set_cons_succ])
      refine wpAnyH_take (i := 1) (v := ?_) rfl (by kernel_rfl) (by kernel_rfl) (by kernel_rfl) (fun _ _ _ h => h) (Or.inl ⟨by rfl, ?_⟩) (by assumption) ?_
      rotate_left
      (focus (intro w hSw; (try dsimp only at hSw); go_simp; (try with_reducible rfl)))
      (try simp only [Act.put, List.getElem_toArray, List.getElem_cons_succ, List.getElem_cons_zero, List.setIfInBounds_toArray, List.set_cons_zero, List.set_cons_succ])
      refine wpAnyH_ready (rs := [2]) (by kernel_rfl) (by simp) ?_
      refine AllReadyH.cons rfl (fun K hK => ?_) AllReadyH.nil
      go_simp
      go_at_call 15
      (with_reducible refine (isal_any b a _).mono ?_)
      rintro e w8 ho
      rw [hl2] at ho
      obtain ⟨rfl, hb⟩ : e = .returned (.bool true) ∧ Below _ _ _ := (id ho)
      clear ho
      have HB := Lib.hid (show Below w.heap.size w w8 from HB.out.trans ((show Below _ _ _ from (((Below.refl _ _).alloc (by first | omega | (simp; done) | (simp <;> omega)) _).drew)).trans (hb.mono (by first | omega | (simp <;> omega)))))
      have Ha : Hid (w8.rangeAt (w1.heap.size) 0 [.int .i64 a.a.re, .int .i64 a.a.im, .int .i64 a.a.den, .int .i64 a.b.re, .int .i64 a.b.im, .int .i64 a.b.den, .int .i64 a.c.re, .int .i64 a.c.im, .int .i64 a.c.den, .int .i64 a.d.re, .int .i64 a.d.im, .int .i64 a.d.den]) := rangeAt_below (show World.rangeAt (World.drew (w7.alloc (.cells #[.int .i64 t2.re, .int .i64 t2.im, .int .i64 t2.den] 24))) (w1.heap.size) 0 [.int .i64 a.a.re, .int .i64 a.a.im, .int .i64 a.a.den, .int .i64 a.b.re, .int .i64 a.b.im, .int .i64 a.b.den, .int .i64 a.c.re, .int .i64 a.c.im, .int .i64 a.c.den, .int .i64 a.d.re, .int .i64 a.d.im, .int .i64 a.d.den] from (World.rangeAt_alloc Ha.out _)) hb (by first | omega | (simp; done) | (simp <;> omega))
      have Hb : Hid (w8.rangeAt (w1.heap.size + 1) 0 [.int .i64 b.a.re, .int .i64 b.a.im, .int .i64 b.a.den, .int .i64 b.b.re, .int .i64 b.b.im, .int .i64 b.b.den, .int .i64 b.c.re, .int .i64 b.c.im, .int .i64 b.c.den, .int .i64 b.d.re, .int .i64 b.d.im, .int .i64 b.d.den]) := rangeAt_below (show World.rangeAt (World.drew (w7.alloc (.cells #[.int .i64 t2.re, .int .i64 t2.im, .int .i64 t2.den] 24))) (w1.heap.size + 1) 0 [.int .i64 b.a.re, .int .i64 b.a.im, .int .i64 b.a.den, .int .i64 b.b.re, .int .i64 b.b.im, .int .i64 b.b.den, .int .i64 b.c.re, .int .i64 b.c.im, .int .i64 b.c.den, .int .i64 b.d.re, .int .i64 b.d.im, .int .i64 b.d.den] from (World.rangeAt_alloc Hb.out _)) hb (by first | omega | (simp; done) | (simp <;> omega))
      have Hs1 : Hid (w8.rangeAt (w4.heap.size) 0 [.int .i64 s1.re, .int .i64 s1.im, .int .i64 s1.den]) := rangeAt_below (show World.rangeAt (World.drew (w7.alloc (.cells #[.int .i64 t2.re, .int .i64 t2.im, .int .i64 t2.den] 24))) (w4.heap.size) 0 [.int .i64 s1.re, .int .i64 s1.im, .int .i64 s1.den] from (World.rangeAt_alloc Hs1.out _)) hb (by first | omega | (simp; done) | (simp <;> omega))
      have Hs2 : Hid (w8.rangeAt (w5.heap.size) 0 [.int .i64 s2.re, .int .i64 s2.im, .int .i64 s2.den]) := rangeAt_below (show World.rangeAt (World.drew (w7.alloc (.cells #[.int .i64 t2.re, .int .i64 t2.im, .int .i64 t2.den] 24))) (w5.heap.size) 0 [.int .i64 s2.re, .int .i64 s2.im, .int .i64 s2.den] from (World.rangeAt_alloc Hs2.out _)) hb (by first | omega | (simp; done) | (simp <;> omega))
      have Ht1 : Hid (w8.rangeAt (w6.heap.size) 0 [.int .i64 t1.re, .int .i64 t1.im, .int .i64 t1.den]) := rangeAt_below (show World.rangeAt (World.drew (w7.alloc (.cells #[.int .i64 t2.re, .int .i64 t2.im, .int .i64 t2.den] 24))) (w6.heap.size) 0 [.int .i64 t1.re, .int .i64 t1.im, .int .i64 t1.den] from (World.rangeAt_alloc Ht1.out _)) hb (by first | omega | (simp; done) | (simp <;> omega))
      have Ht2 : Hid (w8.rangeAt (w7.heap.size) 0 [.int .i64 t2.re, .int .i64 t2.im, .int .i64 t2.den]) := rangeAt_below (show World.rangeAt (World.drew (w7.alloc (.cells #[.int .i64 t2.re, .int .i64 t2.im, .int .i64 t2.den] 24))) (w7.heap.size) 0 [.int .i64 t2.re, .int .i64 t2.im, .int .i64 t2.den] from (rangeAt_new _ _ _)) hb (by first | omega | (simp; done) | (simp <;> omega))
      have hz8 := hb.size
      (try simp at hz8)
      clear hb
      have nA0 : w1.heap.size < w8.heap.size := by omega
      have nB0 : ¬ w1.heap.size = w8.heap.size := by omega
      have nC0 : ¬ w8.heap.size = w1.heap.size := by omega
      have nA1 : w1.heap.size + 1 < w8.heap.size := by omega
      have nB1 : ¬ w1.heap.size + 1 = w8.heap.size := by omega
      have nC1 : ¬ w8.heap.size = w1.heap.size + 1 := by omega
      have nA2 : w4.heap.size < w8.heap.size := by omega
      have nB2 : ¬ w4.heap.size = w8.heap.size := by omega
      have nC2 : ¬ w8.heap.size = w4.heap.size := by omega
      have nA3 : w5.heap.size < w8.heap.size := by omega
      have nB3 : ¬ w5.heap.size = w8.heap.size := by omega
      have nC3 : ¬ w8.heap.size = w5.heap.size := by omega
      have nA4 : w6.heap.size < w8.heap.size := by omega
      have nB4 : ¬ w6.heap.size = w8.heap.size := by omega
      have nC4 : ¬ w8.heap.size = w6.heap.size := by omega
      have nA5 : w7.heap.size < w8.heap.size := by omega
      have nB5 : ¬ w7.heap.size = w8.heap.size := by omega
      have nC5 : ¬ w8.heap.size = w7.heap.size := by omega
      refine hK.out _ _ (show _ from ⟨(cellsM Hb.out), (cellsM Ha.out)⟩) (fun hHeld => ?_)
      clear hK K
      (try simp only [Act.put, List.getElem_toArray, List.getElem_cons_succ, List.getElem_cons_zero, List.setIfInBounds_toArray, List.set_cons_zero, List.set_cons_succ])
      refine wpAnyH_take (i := 3) (v := ?_) rfl (by kernel_rfl) (by kernel_rfl) (by kernel_rfl) (fun _ _ _ h => h) (Or.inl ⟨by rfl, ?_⟩) (by assumption) ?_
      rotate_left
      (focus (intro w hSw; (try dsimp only at hSw); go_simp; (try with_reducible rfl)))
      (try simp only [Act.put, List.getElem_toArray, List.getElem_cons_succ, List.getElem_cons_zero, List.setIfInBounds_toArray, List.set_cons_zero, List.set_cons_succ])
      refine wpAnyH_take (i := 4) (v := ?_) rfl (by kernel_rfl) (by kernel_rfl) (by kernel_rfl) (fun _ _ _ h => h) (Or.inl ⟨by rfl, ?_⟩) (by assumption) ?_
      rotate_left
      (focus (intro w hSw; (try dsimp only at hSw); go_simp; (try with_reducible rfl)))
      (try simp only [Act.put, List.getElem_toArray, List.getElem_cons_succ, List.getElem_cons_zero, List.setIfInBounds_toArray, List.set_cons_zero, List.set_cons_succ])
      refine wpAnyH_take (i := 5) (v := ?_) rfl (by kernel_rfl) (by kernel_rfl) (by kernel_rfl) (fun _ _ _ h => h) (Or.inl ⟨by rfl, ?_⟩) (by assumption) ?_
      rotate_left
      (focus (intro w hSw; (try dsimp only at hSw); go_simp; (try with_reducible rfl)))
      (try simp only [Act.put, List.getElem_toArray, List.getElem_cons_succ, List.getElem_cons_zero, List.setIfInBounds_toArray, List.set_cons_zero, List.set_cons_succ])
      refine wpAnyH_take (i := 6) (v := ?_) rfl (by kernel_rfl) (by kernel_rfl) (by kernel_rfl) (fun _ _ _ h => h) (Or.inl ⟨by rfl, ?_⟩) (by assumption) ?_
      rotate_left
      (focus (intro w hSw; (try dsimp only at hSw); go_simp; (try with_reducible rfl)))
      (try simp only [Act.put, List.getElem_toArray, List.getElem_cons_succ, List.getElem_cons_zero, List.setIfInBounds_toArray, List.set_cons_zero, List.set_cons_succ])
      refine wpAnyH_take (i := 7) rfl (by kernel_rfl) (by kernel_rfl) (by kernel_rfl) (fun _ _ _ h => h) (Or.inr ⟨by rfl, rfl⟩) (by assumption) ?_
      (try simp only [Act.put, List.getElem_toArray, List.getElem_cons_succ, List.getElem_cons_zero, List.setIfInBounds_toArray, List.set_cons_zero, List.set_cons_succ])
      refine wpAnyH_take (i := 8) rfl (by kernel_rfl) (by kernel_rfl) (by kernel_rfl) (fun _ _ _ h => h) (Or.inr ⟨by rfl, rfl⟩) (by assumption) ?_
      (try simp only [Act.put, List.getElem_toArray, List.getElem_cons_succ, List.getElem_cons_zero, List.setIfInBounds_toArray, List.set_cons_zero, List.set_cons_succ])
      refine wpAnyH_take (i := 9) rfl (by kernel_rfl) (by kernel_rfl) (by kernel_rfl) (fun _ _ _ h => h) (Or.inr ⟨by rfl, rfl⟩) (by assumption) ?_
      (try simp only [Act.put, List.getElem_toArray, List.getElem_cons_succ, List.getElem_cons_zero, List.setIfInBounds_toArray, List.set_cons_zero, List.set_cons_succ])
      refine wpAnyH_take (i := 10) rfl (by kernel_rfl) (by kernel_rfl) (by kernel_rfl) (fun _ _ _ h => h) (Or.inr ⟨by rfl, rfl⟩) (by assumption) ?_
      (try simp only [Act.put, List.getElem_toArray, List.getElem_cons_succ, List.getElem_cons_zero, List.setIfInBounds_toArray, List.set_cons_zero, List.set_cons_succ])
      refine wpAnyH_take (i := 11) rfl (by kernel_rfl) (by kernel_rfl) (by kernel_rfl) (fun _ _ _ h => h) (Or.inr ⟨by rfl, rfl⟩) (by assumption) ?_
      (try simp only [Act.put, List.getElem_toArray, List.getElem_cons_succ, List.getElem_cons_zero, List.setIfInBounds_toArray, List.set_cons_zero, List.set_cons_succ])
      refine wpAnyH_take (i := 12) (v := ?_) rfl (by kernel_rfl) (by kernel_rfl) (by kernel_rfl) (fun _ _ _ h => h) (Or.inl ⟨by rfl, ?_⟩) (by assumption) ?_
      rotate_left
      (focus (intro w hSw; (try dsimp only at hSw); go_simp; (try with_reducible rfl)))
      (try simp only [Act.put, List.getElem_toArray, List.getElem_cons_succ, List.getElem_cons_zero, List.setIfInBounds_toArray, List.set_cons_zero, List.set_cons_succ])
      refine wpAnyH_take (i := 13) (v := ?_) rfl (by kernel_rfl) (by kernel_rfl) (by kernel_rfl) (fun _ _ _ h => h) (Or.inl ⟨by rfl, ?_⟩) (by assumption) ?_
      rotate_left
      (focus (intro w hSw; (try dsimp only at hSw); go_simp; (try with_reducible rfl)))
      (try simp only [Act.put, List.getElem_toArray, List.getElem_cons_succ, List.getElem_cons_zero, List.setIfInBounds_toArray, List.set_cons_zero, List.set_cons_succ])
      refine wpAnyH_take (i := 14) (v := ?_) rfl (by kernel_rfl) (by kernel_rfl) (by kernel_rfl) (fun _ _ _ h => h) (Or.inl ⟨by rfl, ?_⟩) (by assumption) ?_
      rotate_left
      (focus (intro w hSw; (try dsimp only at hSw); go_simp; (try with_reducible rfl)))
      (try simp only [Act.put, List.getElem_toArray, List.getElem_cons_succ, List.getElem_cons_zero, List.setIfInBounds_toArray, List.set_cons_zero, List.set_cons_succ])
      refine wpAnyH_done (by kernel_rfl) ?_ _
      clear hHeld
      go_wp2_with fail
      go_ret
      exact ⟨rfl, (by (repeat' first | (with_reducible exact HB.out) | with_reducible refine setCells_below _ _ _ ?_ (by first | omega | (simp <;> omega)) | with_reducible refine Below.setCell ?_ (by show _ ≤ _; first | omega | (simp <;> omega) | simp) _ | with_reducible refine Below.alloc ?_ (by first | omega | (simp <;> omega)) _ | with_reducible apply Below.drew | with_reducible refine below_drewN ?_ _))⟩
    cases b2
    · skip
      go_wp2_with fail
      refine wp_region_held_drew (S := (fun w' => (w'.cell? ⟨w1.heap.size + 1, 0, none⟩ = some (.int .i64 b.a.re) ∧ w'.cell? ⟨w1.heap.size + 1, 1, none⟩ = some (.int .i64 b.a.im) ∧ w'.cell? ⟨w1.heap.size + 1, 2, none⟩ = some (.int .i64 b.a.den) ∧ w'.cell? ⟨w1.heap.size + 1, 3, none⟩ = some (.int .i64 b.b.re) ∧ w'.cell? ⟨w1.heap.size + 1, 4, none⟩ = some (.int .i64 b.b.im) ∧ w'.cell? ⟨w1.heap.size + 1, 5, none⟩ = some (.int .i64 b.b.den) ∧ w'.cell? ⟨w1.heap.size + 1, 6, none⟩ = some (.int .i64 b.c.re) ∧ w'.cell? ⟨w1.heap.size + 1, 7, none⟩ = some (.int .i64 b.c.im) ∧ w'.cell? ⟨w1.heap.size + 1, 8, none⟩ = some (.int .i64 b.c.den) ∧ w'.cell? ⟨w1.heap.size + 1, 9, none⟩ = some (.int .i64 b.d.re) ∧ w'.cell? ⟨w1.heap.size + 1, 10, none⟩ = some (.int .i64 b.d.im) ∧ w'.cell? ⟨w1.heap.size + 1, 11, none⟩ = some (.int .i64 b.d.den)) ∧ (w'.cell? ⟨w1.heap.size, 0, none⟩ = some (.int .i64 a.a.re) ∧ w'.cell? ⟨w1.heap.size, 1, none⟩ = some (.int .i64 a.a.im) ∧ w'.cell? ⟨w1.heap.size, 2, none⟩ = some (.int .i64 a.a.den) ∧ w'.cell? ⟨w1.heap.size, 3, none⟩ = some (.int .i64 a.b.re) ∧ w'.cell? ⟨w1.heap.size, 4, none⟩ = some (.int .i64 a.b.im) ∧ w'.cell? ⟨w1.heap.size, 5, none⟩ = some (.int .i64 a.b.den) ∧ w'.cell? ⟨w1.heap.size, 6, none⟩ = some (.int .i64 a.c.re) ∧ w'.cell? ⟨w1.heap.size, 7, none⟩ = some (.int .i64 a.c.im) ∧ w'.cell? ⟨w1.heap.size, 8, none⟩ = some (.int .i64 a.c.den) ∧ w'.cell? ⟨w1.heap.size, 9, none⟩ = some (.int .i64 a.d.re) ∧ w'.cell? ⟨w1.heap.size, 10, none⟩ = some (.int .i64 a.d.im) ∧ w'.cell? ⟨w1.heap.size, 11, none⟩ = some (.int .i64 a.d.den)))) (by kernel_rfl) (show _ from ⟨(cellsM (show World.rangeAt (World.drew (w7.alloc (.cells #[.int .i64 t2.re, .int .i64 t2.im, .int .i64 t2.den] 24))) (w1.heap.size + 1) 0 [.int .i64 b.a.re, .int .i64 b.a.im, .int .i64 b.a.den, .int .i64 b.b.re, .int .i64 b.b.im, .int .i64 b.b.den, .int .i64 b.c.re, .int .i64 b.c.im, .int .i64 b.c.den, .int .i64 b.d.re, .int .i64 b.d.im, .int .i64 b.d.den] from (World.rangeAt_alloc Hb.out _))), (cellsM (show World.rangeAt (World.drew (w7.alloc (.cells #[.int .i64 t2.re, .int .i64 t2.im, .int .i64 t2.den] 24))) (w1.heap.size) 0 [.int .i64 a.a.re, .int .i64 a.a.im, .int .i64 a.a.den, .int .i64 a.b.re, .int .i64 a.b.im, .int .i64 a.b.den, .int .i64 a.c.re, .int .i64 a.c.im, .int .i64 a.c.den, .int .i64 a.d.re, .int .i64 a.d.im, .int .i64 a.d.den] from (World.rangeAt_alloc Ha.out _)))⟩) (fun hHeld => ?_)
      refine wpAnyH_take (i := 0) (v := ?_) rfl (by kernel_rfl) (by kernel_rfl) (by kernel_rfl) (fun _ _ _ h => h) (Or.inl ⟨by rfl, ?_⟩) (by assumption) ?_
      rotate_left
      (focus (intro w hSw; (try dsimp only at hSw); go_simp; (try with_reducible rfl)))
      (try simp only [Act.put, List.getElem_toArray, List.getElem_cons_succ, List.getElem_cons_zero, List.setIfInBounds_toArray, List.set_cons_zero, List.set_cons_succ])
      refine wpAnyH_take (i := 1) (v := ?_) rfl (by kernel_rfl) (by kernel_rfl) (by kernel_rfl) (fun _ _ _ h => h) (Or.inl ⟨by rfl, ?_⟩) (by assumption) ?_
      rotate_left
      (focus (intro w hSw; (try dsimp only at hSw); go_simp; (try with_reducible rfl)))
      (try simp only [Act.put, List.getElem_toArray, List.getElem_cons_succ, List.getElem_cons_zero, List.setIfInBounds_toArray, List.set_cons_zero, List.set_cons_succ])
      refine wpAnyH_ready (rs := [2]) (by kernel_rfl) (by simp) ?_
      refine AllReadyH.cons rfl (fun K hK => ?_) AllReadyH.nil
      go_simp
      go_at_call 15
      (with_reducible refine (isal_any b a _).mono ?_)
      rintro e w8 ho
      rw [hl2] at ho
      obtain ⟨rfl, hb⟩ : e = .returned (.bool true) ∧ Below _ _ _ := (id ho)
      clear ho
      have HB := Lib.hid (show Below w.heap.size w w8 from HB.out.trans ((show Below _ _ _ from (((Below.refl _ _).alloc (by first | omega | (simp; done) | (simp <;> omega)) _).drew)).trans (hb.mono (by first | omega | (simp <;> omega)))))
      have Ha : Hid (w8.rangeAt (w1.heap.size) 0 [.int .i64 a.a.re, .int .i64 a.a.im, .int .i64 a.a.den, .int .i64 a.b.re, .int .i64 a.b.im, .int .i64 a.b.den, .int .i64 a.c.re, .int .i64 a.c.im, .int .i64 a.c.den, .int .i64 a.d.re, .int .i64 a.d.im, .int .i64 a.d.den]) := rangeAt_below (show World.rangeAt (World.drew (w7.alloc (.cells #[.int .i64 t2.re, .int .i64 t2.im, .int .i64 t2.den] 24))) (w1.heap.size) 0 [.int .i64 a.a.re, .int .i64 a.a.im, .int .i64 a.a.den, .int .i64 a.b.re, .int .i64 a.b.im, .int .i64 a.b.den, .int .i64 a.c.re, .int .i64 a.c.im, .int .i64 a.c.den, .int .i64 a.d.re, .int .i64 a.d.im, .int .i64 a.d.den] from (World.rangeAt_alloc Ha.out _)) hb (by first | omega | (simp; done) | (simp <;> omega))
      have Hb : Hid (w8.rangeAt (w1.heap.size + 1) 0 [.int .i64 b.a.re, .int .i64 b.a.im, .int .i64 b.a.den, .int .i64 b.b.re, .int .i64 b.b.im, .int .i64 b.b.den, .int .i64 b.c.re, .int .i64 b.c.im, .int .i64 b.c.den, .int .i64 b.d.re, .int .i64 b.d.im, .int .i64 b.d.den]) := rangeAt_below (show World.rangeAt (World.drew (w7.alloc (.cells #[.int .i64 t2.re, .int .i64 t2.im, .int .i64 t2.den] 24))) (w1.heap.size + 1) 0 [.int .i64 b.a.re, .int .i64 b.a.im, .int .i64 b.a.den, .int .i64 b.b.re, .int .i64 b.b.im, .int .i64 b.b.den, .int .i64 b.c.re, .int .i64 b.c.im, .int .i64 b.c.den, .int .i64 b.d.re, .int .i64 b.d.im, .int .i64 b.d.den] from (World.rangeAt_alloc Hb.out _)) hb (by first | omega | (simp; done) | (simp <;> omega))
      have Hs1 : Hid (w8.rangeAt (w4.heap.size) 0 [.int .i64 s1.re, .int .i64 s1.im, .int .i64 s1.den]) := rangeAt_below (show World.rangeAt (World.drew (w7.alloc (.cells #[.int .i64 t2.re, .int .i64 t2.im, .int .i64 t2.den] 24))) (w4.heap.size) 0 [.int .i64 s1.re, .int .i64 s1.im, .int .i64 s1.den] from (World.rangeAt_alloc Hs1.out _)) hb (by first | omega | (simp; done) | (simp <;> omega))
      have Hs2 : Hid (w8.rangeAt (w5.heap.size) 0 [.int .i64 s2.re, .int .i64 s2.im, .int .i64 s2.den]) := rangeAt_below (show World.rangeAt (World.drew (w7.alloc (.cells #[.int .i64 t2.re, .int .i64 t2.im, .int .i64 t2.den] 24))) (w5.heap.size) 0 [.int .i64 s2.re, .int .i64 s2.im, .int .i64 s2.den] from (World.rangeAt_alloc Hs2.out _)) hb (by first | omega | (simp; done) | (simp <;> omega))
      have Ht1 : Hid (w8.rangeAt (w6.heap.size) 0 [.int .i64 t1.re, .int .i64 t1.im, .int .i64 t1.den]) := rangeAt_below (show World.rangeAt (World.drew (w7.alloc (.cells #[.int .i64 t2.re, .int .i64 t2.im, .int .i64 t2.den] 24))) (w6.heap.size) 0 [.int .i64 t1.re, .int .i64 t1.im, .int .i64 t1.den] from (World.rangeAt_alloc Ht1.out _)) hb (by first | omega | (simp; done) | (simp <;> omega))
      have Ht2 : Hid (w8.rangeAt (w7.heap.size) 0 [.int .i64 t2.re, .int .i64 t2.im, .int .i64 t2.den]) := rangeAt_below (show World.rangeAt (World.drew (w7.alloc (.cells #[.int .i64 t2.re, .int .i64 t2.im, .int .i64 t2.den] 24))) (w7.heap.size) 0 [.int .i64 t2.re, .int .i64 t2.im, .int .i64 t2.den] from (rangeAt_new _ _ _)) hb (by first | omega | (simp; done) | (simp <;> omega))
      have hz8 := hb.size
      (try simp at hz8)
      clear hb
      have nA0 : w1.heap.size < w8.heap.size := by omega
      have nB0 : ¬ w1.heap.size = w8.heap.size := by omega
      have nC0 : ¬ w8.heap.size = w1.heap.size := by omega
      have nA1 : w1.heap.size + 1 < w8.heap.size := by omega
      have nB1 : ¬ w1.heap.size + 1 = w8.heap.size := by omega
      have nC1 : ¬ w8.heap.size = w1.heap.size + 1 := by omega
      have nA2 : w4.heap.size < w8.heap.size := by omega
      have nB2 : ¬ w4.heap.size = w8.heap.size := by omega
      have nC2 : ¬ w8.heap.size = w4.heap.size := by omega
      have nA3 : w5.heap.size < w8.heap.size := by omega
      have nB3 : ¬ w5.heap.size = w8.heap.size := by omega
      have nC3 : ¬ w8.heap.size = w5.heap.size := by omega
      have nA4 : w6.heap.size < w8.heap.size := by omega
      have nB4 : ¬ w6.heap.size = w8.heap.size := by omega
      have nC4 : ¬ w8.heap.size = w6.heap.size := by omega
      have nA5 : w7.heap.size < w8.heap.size := by omega
      have nB5 : ¬ w7.heap.size = w8.heap.size := by omega
      have nC5 : ¬ w8.heap.size = w7.heap.size := by omega
      refine hK.out _ _ (show _ from ⟨(cellsM Hb.out), (cellsM Ha.out)⟩) (fun hHeld => ?_)
      clear hK K
      (try simp only [Act.put, List.getElem_toArray, List.getElem_cons_succ, List.getElem_cons_zero, List.setIfInBounds_toArray, List.set_cons_zero, List.set_cons_succ])
      refine wpAnyH_take (i := 3) (v := ?_) rfl (by kernel_rfl) (by kernel_rfl) (by kernel_rfl) (fun _ _ _ h => h) (Or.inl ⟨by rfl, ?_⟩) (by assumption) ?_
      rotate_left
      (focus (intro w hSw; (try dsimp only at hSw); go_simp; (try with_reducible rfl)))
      (try simp only [Act.put, List.getElem_toArray, List.getElem_cons_succ, List.getElem_cons_zero, List.setIfInBounds_toArray, List.set_cons_zero, List.set_cons_succ])
      refine wpAnyH_take (i := 4) (v := ?_) rfl (by kernel_rfl) (by kernel_rfl) (by kernel_rfl) (fun _ _ _ h => h) (Or.inl ⟨by rfl, ?_⟩) (by assumption) ?_
      rotate_left
      (focus (intro w hSw; (try dsimp only at hSw); go_simp; (try with_reducible rfl)))
      (try simp only [Act.put, List.getElem_toArray, List.getElem_cons_succ, List.getElem_cons_zero, List.setIfInBounds_toArray, List.set_cons_zero, List.set_cons_succ])
      refine wpAnyH_take (i := 5) (v := ?_) rfl (by kernel_rfl) (by kernel_rfl) (by kernel_rfl) (fun _ _ _ h => h) (Or.inl ⟨by rfl, ?_⟩) (by assumption) ?_
      rotate_left
      (focus (intro w hSw; (try dsimp only at hSw); go_simp; (try with_reducible rfl)))
      (try simp only [Act.put, List.getElem_toArray, List.getElem_cons_succ, List.getElem_cons_zero, List.setIfInBounds_toArray, List.set_cons_zero, List.set_cons_succ])
      refine wpAnyH_take (i := 6) (v := ?_) rfl (by kernel_rfl) (by kernel_rfl) (by kernel_rfl) (fun _ _ _ h => h) (Or.inl ⟨by rfl, ?_⟩) (by assumption) ?_
      rotate_left
      (focus (intro w hSw; (try dsimp only at hSw); go_simp; (try with_reducible rfl)))
      (try simp only [Act.put, List.getElem_toArray, List.getElem_cons_succ, List.getElem_cons_zero, List.setIfInBounds_toArray, List.set_cons_zero, List.set_cons_succ])
      refine wpAnyH_take (i := 7) rfl (by kernel_rfl) (by kernel_rfl) (by kernel_rfl) (fun _ _ _ h => h) (Or.inr ⟨by rfl, rfl⟩) (by assumption) ?_
      (try simp only [Act.put, List.getElem_toArray, List.getElem_cons_succ, List.getElem_cons_zero, List.setIfInBounds_toArray, List.set_cons_zero, List.set_cons_succ])
      refine wpAnyH_take (i := 8) rfl (by kernel_rfl) (by kernel_rfl) (by kernel_rfl) (fun _ _ _ h => h) (Or.inr ⟨by rfl, rfl⟩) (by assumption) ?_
      (try simp only [Act.put, List.getElem_toArray, List.getElem_cons_succ, List.getElem_cons_zero, List.setIfInBounds_toArray, List.set_cons_zero, List.set_cons_succ])
      refine wpAnyH_take (i := 9) rfl (by kernel_rfl) (by kernel_rfl) (by kernel_rfl) (fun _ _ _ h => h) (Or.inr ⟨by rfl, rfl⟩) (by assumption) ?_
      (try simp only [Act.put, List.getElem_toArray, List.getElem_cons_succ, List.getElem_cons_zero, List.setIfInBounds_toArray, List.set_cons_zero, List.set_cons_succ])
      refine wpAnyH_take (i := 10) rfl (by kernel_rfl) (by kernel_rfl) (by kernel_rfl) (fun _ _ _ h => h) (Or.inr ⟨by rfl, rfl⟩) (by assumption) ?_
      (try simp only [Act.put, List.getElem_toArray, List.getElem_cons_succ, List.getElem_cons_zero, List.setIfInBounds_toArray, List.set_cons_zero, List.set_cons_succ])
      refine wpAnyH_take (i := 11) rfl (by kernel_rfl) (by kernel_rfl) (by kernel_rfl) (fun _ _ _ h => h) (Or.inr ⟨by rfl, rfl⟩) (by assumption) ?_
      (try simp only [Act.put, List.getElem_toArray, List.getElem_cons_succ, List.getElem_cons_zero, List.setIfInBounds_toArray, List.set_cons_zero, List.set_cons_succ])
      refine wpAnyH_take (i := 12) (v := ?_) rfl (by kernel_rfl) (by kernel_rfl) (by kernel_rfl) (fun _ _ _ h => h) (Or.inl ⟨by rfl, ?_⟩) (by assumption) ?_
      rotate_left
      (focus (intro w hSw; (try dsimp only at hSw); go_simp; (try with_reducible rfl)))
      (try simp only [Act.put, List.getElem_toArray, List.getElem_cons_succ, List.getElem_cons_zero, List.setIfInBounds_toArray, List.set_cons_zero, List.set_cons_succ])
      refine wpAnyH_take (i := 13) (v := ?_) rfl (by kernel_rfl) (by kernel_rfl) (by kernel_rfl) (fun _ _ _ h => h) (Or.inl ⟨by rfl, ?_⟩) (by assumption) ?_
      rotate_left
      (focus (intro w hSw; (try dsimp only at hSw); go_simp; (try with_reducible rfl)))
      (try simp only [Act.put, List.getElem_toArray, List.getElem_cons_succ, List.getElem_cons_zero, List.setIfInBounds_toArray, List.set_cons_zero, List.set_cons_succ])
      refine wpAnyH_take (i := 14) (v := ?_) rfl (by kernel_rfl) (by kernel_rfl) (by kernel_rfl) (fun _ _ _ h => h) (Or.inl ⟨by rfl, ?_⟩) (by assumption) ?_
      rotate_left
      (focus (intro w hSw; (try dsimp only at hSw); go_simp; (try with_reducible rfl)))
      (try simp only [Act.put, List.getElem_toArray, List.getElem_cons_succ, List.getElem_cons_zero, List.setIfInBounds_toArray, List.set_cons_zero, List.set_cons_succ])
      refine wpAnyH_done (by kernel_rfl) ?_ _
      clear hHeld
      go_wp2_with fail
      go_ret
      exact ⟨rfl, (by (repeat' first | (with_reducible exact HB.out) | with_reducible refine setCells_below _ _ _ ?_ (by first | omega | (simp <;> omega)) | with_reducible refine Below.setCell ?_ (by show _ ≤ _; first | omega | (simp <;> omega) | simp) _ | with_reducible refine Below.alloc ?_ (by first | omega | (simp <;> omega)) _ | with_reducible apply Below.drew | with_reducible refine below_drewN ?_ _))⟩
    cases b3
    · skip
      go_wp2_with fail
      refine wp_region_held_drew (S := (fun w' => (w'.cell? ⟨w1.heap.size + 1, 0, none⟩ = some (.int .i64 b.a.re) ∧ w'.cell? ⟨w1.heap.size + 1, 1, none⟩ = some (.int .i64 b.a.im) ∧ w'.cell? ⟨w1.heap.size + 1, 2, none⟩ = some (.int .i64 b.a.den) ∧ w'.cell? ⟨w1.heap.size + 1, 3, none⟩ = some (.int .i64 b.b.re) ∧ w'.cell? ⟨w1.heap.size + 1, 4, none⟩ = some (.int .i64 b.b.im) ∧ w'.cell? ⟨w1.heap.size + 1, 5, none⟩ = some (.int .i64 b.b.den) ∧ w'.cell? ⟨w1.heap.size + 1, 6, none⟩ = some (.int .i64 b.c.re) ∧ w'.cell? ⟨w1.heap.size + 1, 7, none⟩ = some (.int .i64 b.c.im) ∧ w'.cell? ⟨w1.heap.size + 1, 8, none⟩ = some (.int .i64 b.c.den) ∧ w'.cell? ⟨w1.heap.size + 1, 9, none⟩ = some (.int .i64 b.d.re) ∧ w'.cell? ⟨w1.heap.size + 1, 10, none⟩ = some (.int .i64 b.d.im) ∧ w'.cell? ⟨w1.heap.size + 1, 11, none⟩ = some (.int .i64 b.d.den)) ∧ (w'.cell? ⟨w1.heap.size, 0, none⟩ = some (.int .i64 a.a.re) ∧ w'.cell? ⟨w1.heap.size, 1, none⟩ = some (.int .i64 a.a.im) ∧ w'.cell? ⟨w1.heap.size, 2, none⟩ = some (.int .i64 a.a.den) ∧ w'.cell? ⟨w1.heap.size, 3, none⟩ = some (.int .i64 a.b.re) ∧ w'.cell? ⟨w1.heap.size, 4, none⟩ = some (.int .i64 a.b.im) ∧ w'.cell? ⟨w1.heap.size, 5, none⟩ = some (.int .i64 a.b.den) ∧ w'.cell? ⟨w1.heap.size, 6, none⟩ = some (.int .i64 a.c.re) ∧ w'.cell? ⟨w1.heap.size, 7, none⟩ = some (.int .i64 a.c.im) ∧ w'.cell? ⟨w1.heap.size, 8, none⟩ = some (.int .i64 a.c.den) ∧ w'.cell? ⟨w1.heap.size, 9, none⟩ = some (.int .i64 a.d.re) ∧ w'.cell? ⟨w1.heap.size, 10, none⟩ = some (.int .i64 a.d.im) ∧ w'.cell? ⟨w1.heap.size, 11, none⟩ = some (.int .i64 a.d.den)))) (by kernel_rfl) (show _ from ⟨(cellsM (show World.rangeAt (World.drew (w7.alloc (.cells #[.int .i64 t2.re, .int .i64 t2.im, .int .i64 t2.den] 24))) (w1.heap.size + 1) 0 [.int .i64 b.a.re, .int .i64 b.a.im, .int .i64 b.a.den, .int .i64 b.b.re, .int .i64 b.b.im, .int .i64 b.b.den, .int .i64 b.c.re, .int .i64 b.c.im, .int .i64 b.c.den, .int .i64 b.d.re, .int .i64 b.d.im, .int .i64 b.d.den] from (World.rangeAt_alloc Hb.out _))), (cellsM (show World.rangeAt (World.drew (w7.alloc (.cells #[.int .i64 t2.re, .int .i64 t2.im, .int .i64 t2.den] 24))) (w1.heap.size) 0 [.int .i64 a.a.re, .int .i64 a.a.im, .int .i64 a.a.den, .int .i64 a.b.re, .int .i64 a.b.im, .int .i64 a.b.den, .int .i64 a.c.re, .int .i64 a.c.im, .int .i64 a.c.den, .int .i64 a.d.re, .int .i64 a.d.im, .int .i64 a.d.den] from (World.rangeAt_alloc Ha.out _)))⟩) (fun hHeld => ?_)
      refine wpAnyH_take (i := 0) (v := ?_) rfl (by kernel_rfl) (by kernel_rfl) (by kernel_rfl) (fun _ _ _ h => h) (Or.inl ⟨by rfl, ?_⟩) (by assumption) ?_
      rotate_left
      (focus (intro w hSw; (try dsimp only at hSw); go_simp; (try with_reducible rfl)))
      (try simp only [Act.put, List.getElem_toArray, List.getElem_cons_succ, List.getElem_cons_zero, List.setIfInBounds_toArray, List.set_cons_zero, List.set_cons_succ])
      refine wpAnyH_take (i := 1) (v := ?_) rfl (by kernel_rfl) (by kernel_rfl) (by kernel_rfl) (fun _ _ _ h => h) (Or.inl ⟨by rfl, ?_⟩) (by assumption) ?_
      rotate_left
      (focus (intro w hSw; (try dsimp only at hSw); go_simp; (try with_reducible rfl)))
      (try simp only [Act.put, List.getElem_toArray, List.getElem_cons_succ, List.getElem_cons_zero, List.setIfInBounds_toArray, List.set_cons_zero, List.set_cons_succ])
      refine wpAnyH_ready (rs := [2]) (by kernel_rfl) (by simp) ?_
      refine AllReadyH.cons rfl (fun K hK => ?_) AllReadyH.nil
      go_simp
      go_at_call 15
      (with_reducible refine (isal_any b a _).mono ?_)
      rintro e w8 ho
      rw [hl2] at ho
      obtain ⟨rfl, hb⟩ : e = .returned (.bool true) ∧ Below _ _ _ := (id ho)
      clear ho
      have HB := Lib.hid (show Below w.heap.size w w8 from HB.out.trans ((show Below _ _ _ from (((Below.refl _ _).alloc (by first | omega | (simp; done) | (simp <;> omega)) _).drew)).trans (hb.mono (by first | omega | (simp <;> omega)))))
      have Ha : Hid (w8.rangeAt (w1.heap.size) 0 [.int .i64 a.a.re, .int .i64 a.a.im, .int .i64 a.a.den, .int .i64 a.b.re, .int .i64 a.b.im, .int .i64 a.b.den, .int .i64 a.c.re, .int .i64 a.c.im, .int .i64 a.c.den, .int .i64 a.d.re, .int .i64 a.d.im, .int .i64 a.d.den]) := rangeAt_below (show World.rangeAt (World.drew (w7.alloc (.cells #[.int .i64 t2.re, .int .i64 t2.im, .int .i64 t2.den] 24))) (w1.heap.size) 0 [.int .i64 a.a.re, .int .i64 a.a.im, .int .i64 a.a.den, .int .i64 a.b.re, .int .i64 a.b.im, .int .i64 a.b.den, .int .i64 a.c.re, .int .i64 a.c.im, .int .i64 a.c.den, .int .i64 a.d.re, .int .i64 a.d.im, .int .i64 a.d.den] from (World.rangeAt_alloc Ha.out _)) hb (by first | omega | (simp; done) | (simp <;> omega))
      have Hb : Hid (w8.rangeAt (w1.heap.size + 1) 0 [.int .i64 b.a.re, .int .i64 b.a.im, .int .i64 b.a.den, .int .i64 b.b.re, .int .i64 b.b.im, .int .i64 b.b.den, .int .i64 b.c.re, .int .i64 b.c.im, .int .i64 b.c.den, .int .i64 b.d.re, .int .i64 b.d.im, .int .i64 b.d.den]) := rangeAt_below (show World.rangeAt (World.drew (w7.alloc (.cells #[.int .i64 t2.re, .int .i64 t2.im, .int .i64 t2.den] 24))) (w1.heap.size + 1) 0 [.int .i64 b.a.re, .int .i64 b.a.im, .int .i64 b.a.den, .int .i64 b.b.re, .int .i64 b.b.im, .int .i64 b.b.den, .int .i64 b.c.re, .int .i64 b.c.im, .int .i64 b.c.den, .int .i64 b.d.re, .int .i64 b.d.im, .int .i64 b.d.den] from (World.rangeAt_alloc Hb.out _)) hb (by first | omega | (simp; done) | (simp <;> omega))
      have Hs1 : Hid (w8.rangeAt (w4.heap.size) 0 [.int .i64 s1.re, .int .i64 s1.im, .int .i64 s1.den]) := rangeAt_below (show World.rangeAt (World.drew (w7.alloc (.cells #[.int .i64 t2.re, .int .i64 t2.im, .int .i64 t2.den] 24))) (w4.heap.size) 0 [.int .i64 s1.re, .int .i64 s1.im, .int .i64 s1.den] from (World.rangeAt_alloc Hs1.out _)) hb (by first | omega | (simp; done) | (simp <;> omega))
      have Hs2 : Hid (w8.rangeAt (w5.heap.size) 0 [.int .i64 s2.re, .int .i64 s2.im, .int .i64 s2.den]) := rangeAt_below (show World.rangeAt (World.drew (w7.alloc (.cells #[.int .i64 t2.re, .int .i64 t2.im, .int .i64 t2.den] 24))) (w5.heap.size) 0 [.int .i64 s2.re, .int .i64 s2.im, .int .i64 s2.den] from (World.rangeAt_alloc Hs2.out _)) hb (by first | omega | (simp; done) | (simp <;> omega))
      have Ht1 : Hid (w8.rangeAt (w6.heap.size) 0 [.int .i64 t1.re, .int .i64 t1.im, .int .i64 t1.den]) := rangeAt_below (show World.rangeAt (World.drew (w7.alloc (.cells #[.int .i64 t2.re, .int .i64 t2.im, .int .i64 t2.den] 24))) (w6.heap.size) 0 [.int .i64 t1.re, .int .i64 t1.im, .int .i64 t1.den] from (World.rangeAt_alloc Ht1.out _)) hb (by first | omega | (simp; done) | (simp <;> omega))
      have Ht2 : Hid (w8.rangeAt (w7.heap.size) 0 [.int .i64 t2.re, .int .i64 t2.im, .int .i64 t2.den]) := rangeAt_below (show World.rangeAt (World.drew (w7.alloc (.cells #[.int .i64 t2.re, .int .i64 t2.im, .int .i64 t2.den] 24))) (w7.heap.size) 0 [.int .i64 t2.re, .int .i64 t2.im, .int .i64 t2.den] from (rangeAt_new _ _ _)) hb (by first | omega | (simp; done) | (simp <;> omega))
      have hz8 := hb.size
      (try simp at hz8)
      clear hb
      have nA0 : w1.heap.size < w8.heap.size := by omega
      have nB0 : ¬ w1.heap.size = w8.heap.size := by omega
      have nC0 : ¬ w8.heap.size = w1.heap.size := by omega
      have nA1 : w1.heap.size + 1 < w8.heap.size := by omega
      have nB1 : ¬ w1.heap.size + 1 = w8.heap.size := by omega
      have nC1 : ¬ w8.heap.size = w1.heap.size + 1 := by omega
      have nA2 : w4.heap.size < w8.heap.size := by omega
      have nB2 : ¬ w4.heap.size = w8.heap.size := by omega
      have nC2 : ¬ w8.heap.size = w4.heap.size := by omega
      have nA3 : w5.heap.size < w8.heap.size := by omega
      have nB3 : ¬ w5.heap.size = w8.heap.size := by omega
      have nC3 : ¬ w8.heap.size = w5.heap.size := by omega
      have nA4 : w6.heap.size < w8.heap.size := by omega
      have nB4 : ¬ w6.heap.size = w8.heap.size := by omega
      have nC4 : ¬ w8.heap.size = w6.heap.size := by omega
      have nA5 : w7.heap.size < w8.heap.size := by omega
      have nB5 : ¬ w7.heap.size = w8.heap.size := by omega
      have nC5 : ¬ w8.heap.size = w7.heap.size := by omega
      refine hK.out _ _ (show _ from ⟨(cellsM Hb.out), (cellsM Ha.out)⟩) (fun hHeld => ?_)
      clear hK K
      (try simp only [Act.put, List.getElem_toArray, List.getElem_cons_succ, List.getElem_cons_zero, List.setIfInBounds_toArray, List.set_cons_zero, List.set_cons_succ])
      refine wpAnyH_take (i := 3) (v := ?_) rfl (by kernel_rfl) (by kernel_rfl) (by kernel_rfl) (fun _ _ _ h => h) (Or.inl ⟨by rfl, ?_⟩) (by assumption) ?_
      rotate_left
      (focus (intro w hSw; (try dsimp only at hSw); go_simp; (try with_reducible rfl)))
      (try simp only [Act.put, List.getElem_toArray, List.getElem_cons_succ, List.getElem_cons_zero, List.setIfInBounds_toArray, List.set_cons_zero, List.set_cons_succ])
      refine wpAnyH_take (i := 4) (v := ?_) rfl (by kernel_rfl) (by kernel_rfl) (by kernel_rfl) (fun _ _ _ h => h) (Or.inl ⟨by rfl, ?_⟩) (by assumption) ?_
      rotate_left
      (focus (intro w hSw; (try dsimp only at hSw); go_simp; (try with_reducible rfl)))
      (try simp only [Act.put, List.getElem_toArray, List.getElem_cons_succ, List.getElem_cons_zero, List.setIfInBounds_toArray, List.set_cons_zero, List.set_cons_succ])
      refine wpAnyH_take (i := 5) (v := ?_) rfl (by kernel_rfl) (by kernel_rfl) (by kernel_rfl) (fun _ _ _ h => h) (Or.inl ⟨by rfl, ?_⟩) (by assumption) ?_
      rotate_left
      (focus (intro w hSw; (try dsimp only at hSw); go_simp; (try with_reducible rfl)))
      (try simp only [Act.put, List.getElem_toArray, List.getElem_cons_succ, List.getElem_cons_zero, List.setIfInBounds_toArray, List.set_cons_zero, List.set_cons_succ])
      refine wpAnyH_take (i := 6) (v := ?_) rfl (by kernel_rfl) (by kernel_rfl) (by kernel_rfl) (fun _ _ _ h => h) (Or.inl ⟨by rfl, ?_⟩) (by assumption) ?_
      rotate_left
      (focus (intro w hSw; (try dsimp only at hSw); go_simp; (try with_reducible rfl)))
      (try simp only [Act.put, List.getElem_toArray, List.getElem_cons_succ, List.getElem_cons_zero, List.setIfInBounds_toArray, List.set_cons_zero, List.set_cons_succ])
      refine wpAnyH_take (i := 7) rfl (by kernel_rfl) (by kernel_rfl) (by kernel_rfl) (fun _ _ _ h => h) (Or.inr ⟨by rfl, rfl⟩) (by assumption) ?_
      (try simp only [Act.put, List.getElem_toArray, List.getElem_cons_succ, List.getElem_cons_zero, List.setIfInBounds_toArray, List.set_cons_zero, List.set_cons_succ])
      refine wpAnyH_take (i := 8) rfl (by kernel_rfl) (by kernel_rfl) (by kernel_rfl) (fun _ _ _ h => h) (Or.inr ⟨by rfl, rfl⟩) (by assumption) ?_
      (try simp only [Act.put, List.getElem_toArray, List.getElem_cons_succ, List.getElem_cons_zero, List.setIfInBounds_toArray, List.set_cons_zero, List.set_cons_succ])
      refine wpAnyH_take (i := 9) rfl (by kernel_rfl) (by kernel_rfl) (by kernel_rfl) (fun _ _ _ h => h) (Or.inr ⟨by rfl, rfl⟩) (by assumption) ?_
      (try simp only [Act.put, List.getElem_toArray, List.getElem_cons_succ, List.getElem_cons_zero, List.setIfInBounds_toArray, List.set_cons_zero, List.set_cons_succ])
      refine wpAnyH_take (i := 10) rfl (by kernel_rfl) (by kernel_rfl) (by kernel_rfl) (fun _ _ _ h => h) (Or.inr ⟨by rfl, rfl⟩) (by assumption) ?_
      (try simp only [Act.put, List.getElem_toArray, List.getElem_cons_succ, List.getElem_cons_zero, List.setIfInBounds_toArray, List.set_cons_zero, List.set_cons_succ])
      refine wpAnyH_take (i := 11) rfl (by kernel_rfl) (by kernel_rfl) (by kernel_rfl) (fun _ _ _ h => h) (Or.inr ⟨by rfl, rfl⟩) (by assumption) ?_
      (try simp only [Act.put, List.getElem_toArray, List.getElem_cons_succ, List.getElem_cons_zero, List.setIfInBounds_toArray, List.set_cons_zero, List.set_cons_succ])
      refine wpAnyH_take (i := 12) (v := ?_) rfl (by kernel_rfl) (by kernel_rfl) (by kernel_rfl) (fun _ _ _ h => h) (Or.inl ⟨by rfl, ?_⟩) (by assumption) ?_
      rotate_left
      (focus (intro w hSw; (try dsimp only at hSw); go_simp; (try with_reducible rfl)))
      (try simp only [Act.put, List.getElem_toArray, List.getElem_cons_succ, List.getElem_cons_zero, List.setIfInBounds_toArray, List.set_cons_zero, List.set_cons_succ])
      refine wpAnyH_take (i := 13) (v := ?_) rfl (by kernel_rfl) (by kernel_rfl) (by kernel_rfl) (fun _ _ _ h => h) (Or.inl ⟨by rfl, ?_⟩) (by assumption) ?_
      rotate_left
      (focus (intro w hSw; (try dsimp only at hSw); go_simp; (try with_reducible rfl)))
      (try simp only [Act.put, List.getElem_toArray, List.getElem_cons_succ, List.getElem_cons_zero, List.setIfInBounds_toArray, List.set_cons_zero, List.set_cons_succ])
      refine wpAnyH_take (i := 14) (v := ?_) rfl (by kernel_rfl) (by kernel_rfl) (by kernel_rfl) (fun _ _ _ h => h) (Or.inl ⟨by rfl, ?_⟩) (by assumption) ?_
      rotate_left
      (focus (intro w hSw; (try dsimp only at hSw); go_simp; (try with_reducible rfl)))
      (try simp only [Act.put, List.getElem_toArray, List.getElem_cons_succ, List.getElem_cons_zero, List.setIfInBounds_toArray, List.set_cons_zero, List.set_cons_succ])
      refine wpAnyH_done (by kernel_rfl) ?_ _
      clear hHeld
      go_wp2_with fail
      go_ret
      exact ⟨rfl, (by (repeat' first | (with_reducible exact HB.out) | with_reducible refine setCells_below _ _ _ ?_ (by first | omega | (simp <;> omega)) | with_reducible refine Below.setCell ?_ (by show _ ≤ _; first | omega | (simp <;> omega) | simp) _ | with_reducible refine Below.alloc ?_ (by first | omega | (simp <;> omega)) _ | with_reducible apply Below.drew | with_reducible refine below_drewN ?_ _))⟩
    cases b4
    · skip
      go_wp2_with fail
      refine wp_region_held_drew (S := (fun w' => (w'.cell? ⟨w1.heap.size + 1, 0, none⟩ = some (.int .i64 b.a.re) ∧ w'.cell? ⟨w1.heap.size + 1, 1, none⟩ = some (.int .i64 b.a.im) ∧ w'.cell? ⟨w1.heap.size + 1, 2, none⟩ = some (.int .i64 b.a.den) ∧ w'.cell? ⟨w1.heap.size + 1, 3, none⟩ = some (.int .i64 b.b.re) ∧ w'.cell? ⟨w1.heap.size + 1, 4, none⟩ = some (.int .i64 b.b.im) ∧ w'.cell? ⟨w1.heap.size + 1, 5, none⟩ = some (.int .i64 b.b.den) ∧ w'.cell? ⟨w1.heap.size + 1, 6, none⟩ = some (.int .i64 b.c.re) ∧ w'.cell? ⟨w1.heap.size + 1, 7, none⟩ = some (.int .i64 b.c.im) ∧ w'.cell? ⟨w1.heap.size + 1, 8, none⟩ = some (.int .i64 b.c.den) ∧ w'.cell? ⟨w1.heap.size + 1, 9, none⟩ = some (.int .i64 b.d.re) ∧ w'.cell? ⟨w1.heap.size + 1, 10, none⟩ = some (.int .i64 b.d.im) ∧ w'.cell? ⟨w1.heap.size + 1, 11, none⟩ = some (.int .i64 b.d.den)) ∧ (w'.cell? ⟨w1.heap.size, 0, none⟩ = some (.int .i64 a.a.re) ∧ w'.cell? ⟨w1.heap.size, 1, none⟩ = some (.int .i64 a.a.im) ∧ w'.cell? ⟨w1.heap.size, 2, none⟩ = some (.int .i64 a.a.den) ∧ w'.cell? ⟨w1.heap.size, 3, none⟩ = some (.int .i64 a.b.re) ∧ w'.cell? ⟨w1.heap.size, 4, none⟩ = some (.int .i64 a.b.im) ∧ w'.cell? ⟨w1.heap.size, 5, none⟩ = some (.int .i64 a.b.den) ∧ w'.cell? ⟨w1.heap.size, 6, none⟩ = some (.int .i64 a.c.re) ∧ w'.cell? ⟨w1.heap.size, 7, none⟩ = some (.int .i64 a.c.im) ∧ w'.cell? ⟨w1.heap.size, 8, none⟩ = some (.int .i64 a.c.den) ∧ w'.cell? ⟨w1.heap.size, 9, none⟩ = some (.int .i64 a.d.re) ∧ w'.cell? ⟨w1.heap.size, 10, none⟩ = some (.int .i64 a.d.im) ∧ w'.cell? ⟨w1.heap.size, 11, none⟩ = some (.int .i64 a.d.den)))) (by kernel_rfl) (show _ from ⟨(cellsM (show World.rangeAt (World.drew (w7.alloc (.cells #[.int .i64 t2.re, .int .i64 t2.im, .int .i64 t2.den] 24))) (w1.heap.size + 1) 0 [.int .i64 b.a.re, .int .i64 b.a.im, .int .i64 b.a.den, .int .i64 b.b.re, .int .i64 b.b.im, .int .i64 b.b.den, .int .i64 b.c.re, .int .i64 b.c.im, .int .i64 b.c.den, .int .i64 b.d.re, .int .i64 b.d.im, .int .i64 b.d.den] from (World.rangeAt_alloc Hb.out _))), (cellsM (show World.rangeAt (World.drew (w7.alloc (.cells #[.int .i64 t2.re, .int .i64 t2.im, .int .i64 t2.den] 24))) (w1.heap.size) 0 [.int .i64 a.a.re, .int .i64 a.a.im, .int .i64 a.a.den, .int .i64 a.b.re, .int .i64 a.b.im, .int .i64 a.b.den, .int .i64 a.c.re, .int .i64 a.c.im, .int .i64 a.c.den, .int .i64 a.d.re, .int .i64 a.d.im, .int .i64 a.d.den] from (World.rangeAt_alloc Ha.out _)))⟩) (fun hHeld => ?_)
      refine wpAnyH_take (i := 0) (v := ?_) rfl (by kernel_rfl) (by kernel_rfl) (by kernel_rfl) (fun _ _ _ h => h) (Or.inl ⟨by rfl, ?_⟩) (by assumption) ?_
      rotate_left
      (focus (intro w hSw; (try dsimp only at hSw); go_simp; (try with_reducible rfl)))
      (try simp only [Act.put, List.getElem_toArray, List.getElem_cons_succ, List.getElem_cons_zero, List.setIfInBounds_toArray, List.set_cons_zero, List.set_cons_succ])
      refine wpAnyH_take (i := 1) (v := ?_) rfl (by kernel_rfl) (by kernel_rfl) (by kernel_rfl) (fun _ _ _ h => h) (Or.inl ⟨by rfl, ?_⟩) (by assumption) ?_
      rotate_left
      (focus (intro w hSw; (try dsimp only at hSw); go_simp; (try with_reducible rfl)))
      (try simp only [Act.put, List.getElem_toArray, List.getElem_cons_succ, List.getElem_cons_zero, List.setIfInBounds_toArray, List.set_cons_zero, List.set_cons_succ])
      refine wpAnyH_ready (rs := [2]) (by kernel_rfl) (by simp) ?_
      refine AllReadyH.cons rfl (fun K hK => ?_) AllReadyH.nil
      go_simp
      go_at_call 15
      (with_reducible refine (isal_any b a _).mono ?_)
      rintro e w8 ho
      rw [hl2] at ho
      obtain ⟨rfl, hb⟩ : e = .returned (.bool true) ∧ Below _ _ _ := (id ho)
      clear ho
      have HB := Lib.hid (show Below w.heap.size w w8 from HB.out.trans ((show Below _ _ _ from (((Below.refl _ _).alloc (by first | omega | (simp; done) | (simp <;> omega)) _).drew)).trans (hb.mono (by first | omega | (simp <;> omega)))))
      have Ha : Hid (w8.rangeAt (w1.heap.size) 0 [.int .i64 a.a.re, .int .i64 a.a.im, .int .i64 a.a.den, .int .i64 a.b.re, .int .i64 a.b.im, .int .i64 a.b.den, .int .i64 a.c.re, .int .i64 a.c.im, .int .i64 a.c.den, .int .i64 a.d.re, .int .i64 a.d.im, .int .i64 a.d.den]) := rangeAt_below (show World.rangeAt (World.drew (w7.alloc (.cells #[.int .i64 t2.re, .int .i64 t2.im, .int .i64 t2.den] 24))) (w1.heap.size) 0 [.int .i64 a.a.re, .int .i64 a.a.im, .int .i64 a.a.den, .int .i64 a.b.re, .int .i64 a.b.im, .int .i64 a.b.den, .int .i64 a.c.re, .int .i64 a.c.im, .int .i64 a.c.den, .int .i64 a.d.re, .int .i64 a.d.im, .int .i64 a.d.den] from (World.rangeAt_alloc Ha.out _)) hb (by first | omega | (simp; done) | (simp <;> omega))
      have Hb : Hid (w8.rangeAt (w1.heap.size + 1) 0 [.int .i64 b.a.re, .int .i64 b.a.im, .int .i64 b.a.den, .int .i64 b.b.re, .int .i64 b.b.im, .int .i64 b.b.den, .int .i64 b.c.re, .int .i64 b.c.im, .int .i64 b.c.den, .int .i64 b.d.re, .int .i64 b.d.im, .int .i64 b.d.den]) := rangeAt_below (show World.rangeAt (World.drew (w7.alloc (.cells #[.int .i64 t2.re, .int .i64 t2.im, .int .i64 t2.den] 24))) (w1.heap.size + 1) 0 [.int .i64 b.a.re, .int .i64 b.a.im, .int .i64 b.a.den, .int .i64 b.b.re, .int .i64 b.b.im, .int .i64 b.b.den, .int .i64 b.c.re, .int .i64 b.c.im, .int .i64 b.c.den, .int .i64 b.d.re, .int .i64 b.d.im, .int .i64 b.d.den] from (World.rangeAt_alloc Hb.out _)) hb (by first | omega | (simp; done) | (simp <;> omega))
      have Hs1 : Hid (w8.rangeAt (w4.heap.size) 0 [.int .i64 s1.re, .int .i64 s1.im, .int .i64 s1.den]) := rangeAt_below (show World.rangeAt (World.drew (w7.alloc (.cells #[.int .i64 t2.re, .int .i64 t2.im, .int .i64 t2.den] 24))) (w4.heap.size) 0 [.int .i64 s1.re, .int .i64 s1.im, .int .i64 s1.den] from (World.rangeAt_alloc Hs1.out _)) hb (by first | omega | (simp; done) | (simp <;> omega))
      have Hs2 : Hid (w8.rangeAt (w5.heap.size) 0 [.int .i64 s2.re, .int .i64 s2.im, .int .i64 s2.den]) := rangeAt_below (show World.rangeAt (World.drew (w7.alloc (.cells #[.int .i64 t2.re, .int .i64 t2.im, .int .i64 t2.den] 24))) (w5.heap.size) 0 [.int .i64 s2.re, .int .i64 s2.im, .int .i64 s2.den] from (World.rangeAt_alloc Hs2.out _)) hb (by first | omega | (simp; done) | (simp <;> omega))
      have Ht1 : Hid (w8.rangeAt (w6.heap.size) 0 [.int .i64 t1.re, .int .i64 t1.im, .int .i64 t1.den]) := rangeAt_below (show World.rangeAt (World.drew (w7.alloc (.cells #[.int .i64 t2.re, .int .i64 t2.im, .int .i64 t2.den] 24))) (w6.heap.size) 0 [.int .i64 t1.re, .int .i64 t1.im, .int .i64 t1.den] from (World.rangeAt_alloc Ht1.out _)) hb (by first | omega | (simp; done) | (simp <;> omega))
      have Ht2 : Hid (w8.rangeAt (w7.heap.size) 0 [.int .i64 t2.re, .int .i64 t2.im, .int .i64 t2.den]) := rangeAt_below (show World.rangeAt (World.drew (w7.alloc (.cells #[.int .i64 t2.re, .int .i64 t2.im, .int .i64 t2.den] 24))) (w7.heap.size) 0 [.int .i64 t2.re, .int .i64 t2.im, .int .i64 t2.den] from (rangeAt_new _ _ _)) hb (by first | omega | (simp; done) | (simp <;> omega))
      have hz8 := hb.size
      (try simp at hz8)
      clear hb
      have nA0 : w1.heap.size < w8.heap.size := by omega
      have nB0 : ¬ w1.heap.size = w8.heap.size := by omega
      have nC0 : ¬ w8.heap.size = w1.heap.size := by omega
      have nA1 : w1.heap.size + 1 < w8.heap.size := by omega
      have nB1 : ¬ w1.heap.size + 1 = w8.heap.size := by omega
      have nC1 : ¬ w8.heap.size = w1.heap.size + 1 := by omega
      have nA2 : w4.heap.size < w8.heap.size := by omega
      have nB2 : ¬ w4.heap.size = w8.heap.size := by omega
      have nC2 : ¬ w8.heap.size = w4.heap.size := by omega
      have nA3 : w5.heap.size < w8.heap.size := by omega
      have nB3 : ¬ w5.heap.size = w8.heap.size := by omega
      have nC3 : ¬ w8.heap.size = w5.heap.size := by omega
      have nA4 : w6.heap.size < w8.heap.size := by omega
      have nB4 : ¬ w6.heap.size = w8.heap.size := by omega
      have nC4 : ¬ w8.heap.size = w6.heap.size := by omega
      have nA5 : w7.heap.size < w8.heap.size := by omega
      have nB5 : ¬ w7.heap.size = w8.heap.size := by omega
      have nC5 : ¬ w8.heap.size = w7.heap.size := by omega
      refine hK.out _ _ (show _ from ⟨(cellsM Hb.out), (cellsM Ha.out)⟩) (fun hHeld => ?_)
      clear hK K
      (try simp only [Act.put, List.getElem_toArray, List.getElem_cons_succ, List.getElem_cons_zero, List.setIfInBounds_toArray, List.set_cons_zero, List.set_cons_succ])
      refine wpAnyH_take (i := 3) (v := ?_) rfl (by kernel_rfl) (by kernel_rfl) (by kernel_rfl) (fun _ _ _ h => h) (Or.inl ⟨by rfl, ?_⟩) (by assumption) ?_
      rotate_left
      (focus (intro w hSw; (try dsimp only at hSw); go_simp; (try with_reducible rfl)))
      (try simp only [Act.put, List.getElem_toArray, List.getElem_cons_succ, List.getElem_cons_zero, List.setIfInBounds_toArray, List.set_cons_zero, List.set_cons_succ])
      refine wpAnyH_take (i := 4) (v := ?_) rfl (by kernel_rfl) (by kernel_rfl) (by kernel_rfl) (fun _ _ _ h => h) (Or.inl ⟨by rfl, ?_⟩) (by assumption) ?_
      rotate_left
      (focus (intro w hSw; (try dsimp only at hSw); go_simp; (try with_reducible rfl)))
      (try simp only [Act.put, List.getElem_toArray, List.getElem_cons_succ, List.getElem_cons_zero, List.setIfInBounds_toArray, List.set_cons_zero, List.set_cons_succ])
      refine wpAnyH_take (i := 5) (v := ?_) rfl (by kernel_rfl) (by kernel_rfl) (by kernel_rfl) (fun _ _ _ h => h) (Or.inl ⟨by rfl, ?_⟩) (by assumption) ?_
      rotate_left
      (focus (intro w hSw; (try dsimp only at hSw); go_simp; (try with_reducible rfl)))
      (try simp only [Act.put, List.getElem_toArray, List.getElem_cons_succ, List.getElem_cons_zero, List.setIfInBounds_toArray, List.set_cons_zero, List.set_cons_succ])
      refine wpAnyH_take (i := 6) (v := ?_) rfl (by kernel_rfl) (by kernel_rfl) (by kernel_rfl) (fun _ _ _ h => h) (Or.inl ⟨by rfl, ?_⟩) (by assumption) ?_
      rotate_left
      (focus (intro w hSw; (try dsimp only at hSw); go_simp; (try with_reducible rfl)))
      (try simp only [Act.put, List.getElem_toArray, List.getElem_cons_succ, List.getElem_cons_zero, List.setIfInBounds_toArray, List.set_cons_zero, List.set_cons_succ])
      refine wpAnyH_take (i := 7) rfl (by kernel_rfl) (by kernel_rfl) (by kernel_rfl) (fun _ _ _ h => h) (Or.inr ⟨by rfl, rfl⟩) (by assumption) ?_
      (try simp only [Act.put, List.getElem_toArray, List.getElem_cons_succ, List.getElem_cons_zero, List.setIfInBounds_toArray, List.set_cons_zero, List.set_cons_succ])
      refine wpAnyH_take (i := 8) rfl (by kernel_rfl) (by kernel_rfl) (by kernel_rfl) (fun _ _ _ h => h) (Or.inr ⟨by rfl, rfl⟩) (by assumption) ?_
      (try simp only [Act.put, List.getElem_toArray, List.getElem_cons_succ, List.getElem_cons_zero, List.setIfInBounds_toArray, List.set_cons_zero, List.set_cons_succ])
      refine wpAnyH_take (i := 9) rfl (by kernel_rfl) (by kernel_rfl) (by kernel_rfl) (fun _ _ _ h => h) (Or.inr ⟨by rfl, rfl⟩) (by assumption) ?_
      (try simp only [Act.put, List.getElem_toArray, List.getElem_cons_succ, List.getElem_cons_zero, List.setIfInBounds_toArray, List.set_cons_zero, List.set_cons_succ])
      refine wpAnyH_take (i := 10) rfl (by kernel_rfl) (by kernel_rfl) (by kernel_rfl) (fun _ _ _ h => h) (Or.inr ⟨by rfl, rfl⟩) (by assumption) ?_
      (try simp only [Act.put, List.getElem_toArray, List.getElem_cons_succ, List.getElem_cons_zero, List.setIfInBounds_toArray, List.set_cons_zero, List.set_cons_succ])
      refine wpAnyH_take (i := 11) rfl (by kernel_rfl) (by kernel_rfl) (by kernel_rfl) (fun _ _ _ h => h) (Or.inr ⟨by rfl, rfl⟩) (by assumption) ?_
      (try simp only [Act.put, List.getElem_toArray, List.getElem_cons_succ, List.getElem_cons_zero, List.setIfInBounds_toArray, List.set_cons_zero, List.set_cons_succ])
      refine wpAnyH_take (i := 12) (v := ?_) rfl (by kernel_rfl) (by kernel_rfl) (by kernel_rfl) (fun _ _ _ h => h) (Or.inl ⟨by rfl, ?_⟩) (by assumption) ?_
      rotate_left
      (focus (intro w hSw; (try dsimp only at hSw); go_simp; (try with_reducible rfl)))
      (try simp only [Act.put, List.getElem_toArray, List.getElem_cons_succ, List.getElem_cons_zero, List.setIfInBounds_toArray, List.set_cons_zero, List.set_cons_succ])
      refine wpAnyH_take (i := 13) (v := ?_) rfl (by kernel_rfl) (by kernel_rfl) (by kernel_rfl) (fun _ _ _ h => h) (Or.inl ⟨by rfl, ?_⟩) (by assumption) ?_
      rotate_left
      (focus (intro w hSw; (try dsimp only at hSw); go_simp; (try with_reducible rfl)))
      (try simp only [Act.put, List.getElem_toArray, List.getElem_cons_succ, List.getElem_cons_zero, List.setIfInBounds_toArray, List.set_cons_zero, List.set_cons_succ])
      refine wpAnyH_take (i := 14) (v := ?_) rfl (by kernel_rfl) (by kernel_rfl) (by kernel_rfl) (fun _ _ _ h => h) (Or.inl ⟨by rfl, ?_⟩) (by assumption) ?_
      rotate_left
      (focus (intro w hSw; (try dsimp only at hSw); go_simp; (try with_reducible rfl)))
      (try simp only [Act.put, List.getElem_toArray, List.getElem_cons_succ, List.getElem_cons_zero, List.setIfInBounds_toArray, List.set_cons_zero, List.set_cons_succ])
      refine wpAnyH_done (by kernel_rfl) ?_ _
      clear hHeld
      go_wp2_with fail
      go_ret
      exact ⟨rfl, (by (repeat' first | (with_reducible exact HB.out) | with_reducible refine setCells_below _ _ _ ?_ (by first | omega | (simp <;> omega)) | with_reducible refine Below.setCell ?_ (by show _ ≤ _; first | omega | (simp <;> omega) | simp) _ | with_reducible refine Below.alloc ?_ (by first | omega | (simp <;> omega)) _ | with_reducible apply Below.drew | with_reducible refine below_drewN ?_ _))⟩
    by_cases hz : a.a.re = 0
    · skip
      have hz2 : (a.a.re != 0) = false := by simp [hz]
      clear hz
      go_wp2_with fail
      refine wp_region_held_drew (S := (fun w' => (w'.cell? ⟨w1.heap.size + 1, 0, none⟩ = some (.int .i64 b.a.re) ∧ w'.cell? ⟨w1.heap.size + 1, 1, none⟩ = some (.int .i64 b.a.im) ∧ w'.cell? ⟨w1.heap.size + 1, 2, none⟩ = some (.int .i64 b.a.den) ∧ w'.cell? ⟨w1.heap.size + 1, 3, none⟩ = some (.int .i64 b.b.re) ∧ w'.cell? ⟨w1.heap.size + 1, 4, none⟩ = some (.int .i64 b.b.im) ∧ w'.cell? ⟨w1.heap.size + 1, 5, none⟩ = some (.int .i64 b.b.den) ∧ w'.cell? ⟨w1.heap.size + 1, 6, none⟩ = some (.int .i64 b.c.re) ∧ w'.cell? ⟨w1.heap.size + 1, 7, none⟩ = some (.int .i64 b.c.im) ∧ w'.cell? ⟨w1.heap.size + 1, 8, none⟩ = some (.int .i64 b.c.den) ∧ w'.cell? ⟨w1.heap.size + 1, 9, none⟩ = some (.int .i64 b.d.re) ∧ w'.cell? ⟨w1.heap.size + 1, 10, none⟩ = some (.int .i64 b.d.im) ∧ w'.cell? ⟨w1.heap.size + 1, 11, none⟩ = some (.int .i64 b.d.den)) ∧ (w'.cell? ⟨w1.heap.size, 0, none⟩ = some (.int .i64 a.a.re) ∧ w'.cell? ⟨w1.heap.size, 1, none⟩ = some (.int .i64 a.a.im) ∧ w'.cell? ⟨w1.heap.size, 2, none⟩ = some (.int .i64 a.a.den) ∧ w'.cell? ⟨w1.heap.size, 3, none⟩ = some (.int .i64 a.b.re) ∧ w'.cell? ⟨w1.heap.size, 4, none⟩ = some (.int .i64 a.b.im) ∧ w'.cell? ⟨w1.heap.size, 5, none⟩ = some (.int .i64 a.b.den) ∧ w'.cell? ⟨w1.heap.size, 6, none⟩ = some (.int .i64 a.c.re) ∧ w'.cell? ⟨w1.heap.size, 7, none⟩ = some (.int .i64 a.c.im) ∧ w'.cell? ⟨w1.heap.size, 8, none⟩ = some (.int .i64 a.c.den) ∧ w'.cell? ⟨w1.heap.size, 9, none⟩ = some (.int .i64 a.d.re) ∧ w'.cell? ⟨w1.heap.size, 10, none⟩ = some (.int .i64 a.d.im) ∧ w'.cell? ⟨w1.heap.size, 11, none⟩ = some (.int .i64 a.d.den)))) (by kernel_rfl) (show _ from ⟨(cellsM (show World.rangeAt (World.drew (w7.alloc (.cells #[.int .i64 t2.re, .int .i64 t2.im, .int .i64 t2.den] 24))) (w1.heap.size + 1) 0 [.int .i64 b.a.re, .int .i64 b.a.im, .int .i64 b.a.den, .int .i64 b.b.re, .int .i64 b.b.im, .int .i64 b.b.den, .int .i64 b.c.re, .int .i64 b.c.im, .int .i64 b.c.den, .int .i64 b.d.re, .int .i64 b.d.im, .int .i64 b.d.den] from (World.rangeAt_alloc Hb.out _))), (cellsM (show World.rangeAt (World.drew (w7.alloc (.cells #[.int .i64 t2.re, .int .i64 t2.im, .int .i64 t2.den] 24))) (w1.heap.size) 0 [.int .i64 a.a.re, .int .i64 a.a.im, .int .i64 a.a.den, .int .i64 a.b.re, .int .i64 a.b.im, .int .i64 a.b.den, .int .i64 a.c.re, .int .i64 a.c.im, .int .i64 a.c.den, .int .i64 a.d.re, .int .i64 a.d.im, .int .i64 a.d.den] from (World.rangeAt_alloc Ha.out _)))⟩) (fun hHeld => ?_)
      refine wpAnyH_take (i := 0) (v := ?_) rfl (by kernel_rfl) (by kernel_rfl) (by kernel_rfl) (fun _ _ _ h => h) (Or.inl ⟨by rfl, ?_⟩) (by assumption) ?_
      rotate_left
      (focus (intro w hSw; (try dsimp only at hSw); go_simp; (try with_reducible rfl)))
      (try simp only [Act.put, List.getElem_toArray, List.getElem_cons_succ, List.getElem_cons_zero, List.setIfInBounds_toArray, List.set_cons_zero, List.set_cons_succ])
      refine wpAnyH_take (i := 1) (v := ?_) rfl (by kernel_rfl) (by kernel_rfl) (by kernel_rfl) (fun _ _ _ h => h) (Or.inl ⟨by rfl, ?_⟩) (by assumption) ?_
      rotate_left
      (focus (intro w hSw; (try dsimp only at hSw); go_simp; (try with_reducible rfl)))
      (try simp only [Act.put, List.getElem_toArray, List.getElem_cons_succ, List.getElem_cons_zero, List.setIfInBounds_toArray, List.set_cons_zero, List.set_cons_succ])
      refine wpAnyH_ready (rs := [2]) (by kernel_rfl) (by simp) ?_
      refine AllReadyH.cons rfl (fun K hK => ?_) AllReadyH.nil
      go_simp
      go_at_call 15
      (with_reducible refine (isal_any b a _).mono ?_)
      rintro e w8 ho
      rw [hl2] at ho
      obtain ⟨rfl, hb⟩ : e = .returned (.bool true) ∧ Below _ _ _ := (id ho)
      clear ho
      have HB := Lib.hid (show Below w.heap.size w w8 from HB.out.trans ((show Below _ _ _ from (((Below.refl _ _).alloc (by first | omega | (simp; done) | (simp <;> omega)) _).drew)).trans (hb.mono (by first | omega | (simp <;> omega)))))
      have Ha : Hid (w8.rangeAt (w1.heap.size) 0 [.int .i64 a.a.re, .int .i64 a.a.im, .int .i64 a.a.den, .int .i64 a.b.re, .int .i64 a.b.im, .int .i64 a.b.den, .int .i64 a.c.re, .int .i64 a.c.im, .int .i64 a.c.den, .int .i64 a.d.re, .int .i64 a.d.im, .int .i64 a.d.den]) := rangeAt_below (show World.rangeAt (World.drew (w7.alloc (.cells #[.int .i64 t2.re, .int .i64 t2.im, .int .i64 t2.den] 24))) (w1.heap.size) 0 [.int .i64 a.a.re, .int .i64 a.a.im, .int .i64 a.a.den, .int .i64 a.b.re, .int .i64 a.b.im, .int .i64 a.b.den, .int .i64 a.c.re, .int .i64 a.c.im, .int .i64 a.c.den, .int .i64 a.d.re, .int .i64 a.d.im, .int .i64 a.d.den] from (World.rangeAt_alloc Ha.out _)) hb (by first | omega | (simp; done) | (simp <;> omega))
      have Hb : Hid (w8.rangeAt (w1.heap.size + 1) 0 [.int .i64 b.a.re, .int .i64 b.a.im, .int .i64 b.a.den, .int .i64 b.b.re, .int .i64 b.b.im, .int .i64 b.b.den, .int .i64 b.c.re, .int .i64 b.c.im, .int .i64 b.c.den, .int .i64 b.d.re, .int .i64 b.d.im, .int .i64 b.d.den]) := rangeAt_below (show World.rangeAt (World.drew (w7.alloc (.cells #[.int .i64 t2.re, .int .i64 t2.im, .int .i64 t2.den] 24))) (w1.heap.size + 1) 0 [.int .i64 b.a.re, .int .i64 b.a.im, .int .i64 b.a.den, .int .i64 b.b.re, .int .i64 b.b.im, .int .i64 b.b.den, .int .i64 b.c.re, .int .i64 b.c.im, .int .i64 b.c.den, .int .i64 b.d.re, .int .i64 b.d.im, .int .i64 b.d.den] from (World.rangeAt_alloc Hb.out _)) hb (by first | omega | (simp; done) | (simp <;> omega))
      have Hs1 : Hid (w8.rangeAt (w4.heap.size) 0 [.int .i64 s1.re, .int .i64 s1.im, .int .i64 s1.den]) := rangeAt_below (show World.rangeAt (World.drew (w7.alloc (.cells #[.int .i64 t2.re, .int .i64 t2.im, .int .i64 t2.den] 24))) (w4.heap.size) 0 [.int .i64 s1.re, .int .i64 s1.im, .int .i64 s1.den] from (World.rangeAt_alloc Hs1.out _)) hb (by first | omega | (simp; done) | (simp <;> omega))
      have Hs2 : Hid (w8.rangeAt (w5.heap.size) 0 [.int .i64 s2.re, .int .i64 s2.im, .int .i64 s2.den]) := rangeAt_below (show World.rangeAt (World.drew (w7.alloc (.cells #[.int .i64 t2.re, .int .i64 t2.im, .int .i64 t2.den] 24))) (w5.heap.size) 0 [.int .i64 s2.re, .int .i64 s2.im, .int .i64 s2.den] from (World.rangeAt_alloc Hs2.out _)) hb (by first | omega | (simp; done) | (simp <;> omega))
      have Ht1 : Hid (w8.rangeAt (w6.heap.size) 0 [.int .i64 t1.re, .int .i64 t1.im, .int .i64 t1.den]) := rangeAt_below (show World.rangeAt (World.drew (w7.alloc (.cells #[.int .i64 t2.re, .int .i64 t2.im, .int .i64 t2.den] 24))) (w6.heap.size) 0 [.int .i64 t1.re, .int .i64 t1.im, .int .i64 t1.den] from (World.rangeAt_alloc Ht1.out _)) hb (by first | omega | (simp; done) | (simp <;> omega))
      have Ht2 : Hid (w8.rangeAt (w7.heap.size) 0 [.int .i64 t2.re, .int .i64 t2.im, .int .i64 t2.den]) := rangeAt_below (show World.rangeAt (World.drew (w7.alloc (.cells #[.int .i64 t2.re, .int .i64 t2.im, .int .i64 t2.den] 24))) (w7.heap.size) 0 [.int .i64 t2.re, .int .i64 t2.im, .int .i64 t2.den] from (rangeAt_new _ _ _)) hb (by first | omega | (simp; done) | (simp <;> omega))
      have hz8 := hb.size
      (try simp at hz8)
      clear hb
      have nA0 : w1.heap.size < w8.heap.size := by omega
      have nB0 : ¬ w1.heap.size = w8.heap.size := by omega
      have nC0 : ¬ w8.heap.size = w1.heap.size := by omega
      have nA1 : w1.heap.size + 1 < w8.heap.size := by omega
      have nB1 : ¬ w1.heap.size + 1 = w8.heap.size := by omega
      have nC1 : ¬ w8.heap.size = w1.heap.size + 1 := by omega
      have nA2 : w4.heap.size < w8.heap.size := by omega
      have nB2 : ¬ w4.heap.size = w8.heap.size := by omega
      have nC2 : ¬ w8.heap.size = w4.heap.size := by omega
      have nA3 : w5.heap.size < w8.heap.size := by omega
      have nB3 : ¬ w5.heap.size = w8.heap.size := by omega
      have nC3 : ¬ w8.heap.size = w5.heap.size := by omega
      have nA4 : w6.heap.size < w8.heap.size := by omega
      have nB4 : ¬ w6.heap.size = w8.heap.size := by omega
      have nC4 : ¬ w8.heap.size = w6.heap.size := by omega
      have nA5 : w7.heap.size < w8.heap.size := by omega
      have nB5 : ¬ w7.heap.size = w8.heap.size := by omega
      have nC5 : ¬ w8.heap.size = w7.heap.size := by omega
      refine hK.out _ _ (show _ from ⟨(cellsM Hb.out), (cellsM Ha.out)⟩) (fun hHeld => ?_)
      clear hK K
      (try simp only [Act.put, List.getElem_toArray, List.getElem_cons_succ, List.getElem_cons_zero, List.setIfInBounds_toArray, List.set_cons_zero, List.set_cons_succ])
      refine wpAnyH_take (i := 3) (v := ?_) rfl (by kernel_rfl) (by kernel_rfl) (by kernel_rfl) (fun _ _ _ h => h) (Or.inl ⟨by rfl, ?_⟩) (by assumption) ?_
      rotate_left
      (focus (intro w hSw; (try dsimp only at hSw); go_simp; (try with_reducible rfl)))
      (try simp only [Act.put, List.getElem_toArray, List.getElem_cons_succ, List.getElem_cons_zero, List.setIfInBounds_toArray, List.set_cons_zero, List.set_cons_succ])
      refine wpAnyH_take (i := 4) (v := ?_) rfl (by kernel_rfl) (by kernel_rfl) (by kernel_rfl) (fun _ _ _ h => h) (Or.inl ⟨by rfl, ?_⟩) (by assumption) ?_
      rotate_left
      (focus (intro w hSw; (try dsimp only at hSw); go_simp; (try with_reducible rfl)))
      (try simp only [Act.put, List.getElem_toArray, List.getElem_cons_succ, List.getElem_cons_zero, List.setIfInBounds_toArray, List.set_cons_zero, List.set_cons_succ])
      refine wpAnyH_take (i := 5) (v := ?_) rfl (by kernel_rfl) (by kernel_rfl) (by kernel_rfl) (fun _ _ _ h => h) (Or.inl ⟨by rfl, ?_⟩) (by assumption) ?_
      rotate_left
      (focus (intro w hSw; (try dsimp only at hSw); go_simp; (try with_reducible rfl)))
      (try simp only [Act.put, List.getElem_toArray, List.getElem_cons_succ, List.getElem_cons_zero, List.setIfInBounds_toArray, List.set_cons_zero, List.set_cons_succ])
      refine wpAnyH_take (i := 6) (v := ?_) rfl (by kernel_rfl) (by kernel_rfl) (by kernel_rfl) (fun _ _ _ h => h) (Or.inl ⟨by rfl, ?_⟩) (by assumption) ?_
      rotate_left
      (focus (intro w hSw; (try dsimp only at hSw); go_simp; (try with_reducible rfl)))
      (try simp only [Act.put, List.getElem_toArray, List.getElem_cons_succ, List.getElem_cons_zero, List.setIfInBounds_toArray, List.set_cons_zero, List.set_cons_succ])
      refine wpAnyH_take (i := 7) rfl (by kernel_rfl) (by kernel_rfl) (by kernel_rfl) (fun _ _ _ h => h) (Or.inr ⟨by rfl, rfl⟩) (by assumption) ?_
      (try simp only [Act.put, List.getElem_toArray, List.getElem_cons_succ, List.getElem_cons_zero, List.setIfInBounds_toArray, List.set_cons_zero, List.set_cons_succ])
      refine wpAnyH_take (i := 8) rfl (by kernel_rfl) (by kernel_rfl) (by kernel_rfl) (fun _ _ _ h => h) (Or.inr ⟨by rfl, rfl⟩) (by assumption) ?_
      (try simp only [Act.put, List.getElem_toArray, List.getElem_cons_succ, List.getElem_cons_zero, List.setIfInBounds_toArray, List.set_cons_zero, List.set_cons_succ])
      refine wpAnyH_take (i := 9) rfl (by kernel_rfl) (by kernel_rfl) (by kernel_rfl) (fun _ _ _ h => h) (Or.inr ⟨by rfl, rfl⟩) (by assumption) ?_
      (try simp only [Act.put, List.getElem_toArray, List.getElem_cons_succ, List.getElem_cons_zero, List.setIfInBounds_toArray, List.set_cons_zero, List.set_cons_succ])
      refine wpAnyH_take (i := 10) rfl (by kernel_rfl) (by kernel_rfl) (by kernel_rfl) (fun _ _ _ h => h) (Or.inr ⟨by rfl, rfl⟩) (by assumption) ?_
      (try simp only [Act.put, List.getElem_toArray, List.getElem_cons_succ, List.getElem_cons_zero, List.setIfInBounds_toArray, List.set_cons_zero, List.set_cons_succ])
      refine wpAnyH_take (i := 11) rfl (by kernel_rfl) (by kernel_rfl) (by kernel_rfl) (fun _ _ _ h => h) (Or.inr ⟨by rfl, rfl⟩) (by assumption) ?_
      (try simp only [Act.put, List.getElem_toArray, List.getElem_cons_succ, List.getElem_cons_zero, List.setIfInBounds_toArray, List.set_cons_zero, List.set_cons_succ])
      refine wpAnyH_take (i := 12) (v := ?_) rfl (by kernel_rfl) (by kernel_rfl) (by kernel_rfl) (fun _ _ _ h => h) (Or.inl ⟨by rfl, ?_⟩) (by assumption) ?_
      rotate_left
      (focus (intro w hSw; (try dsimp only at hSw); go_simp; (try with_reducible rfl)))
      (try simp only [Act.put, List.getElem_toArray, List.getElem_cons_succ, List.getElem_cons_zero, List.setIfInBounds_toArray, List.set_cons_zero, List.set_cons_succ])
      refine wpAnyH_take (i := 13) (v := ?_) rfl (by kernel_rfl) (by kernel_rfl) (by kernel_rfl) (fun _ _ _ h => h) (Or.inl ⟨by rfl, ?_⟩) (by assumption) ?_
      rotate_left
      (focus (intro w hSw; (try dsimp only at hSw); go_simp; (try with_reducible rfl)))
      (try simp only [Act.put, List.getElem_toArray, List.getElem_cons_succ, List.getElem_cons_zero, List.setIfInBounds_toArray, List.set_cons_zero, List.set_cons_succ])
      refine wpAnyH_take (i := 14) (v := ?_) rfl (by kernel_rfl) (by kernel_rfl) (by kernel_rfl) (fun _ _ _ h => h) (Or.inl ⟨by rfl, ?_⟩) (by assumption) ?_
      rotate_left
      (focus (intro w hSw; (try dsimp only at hSw); go_simp; (try with_reducible rfl)))
      (try simp only [Act.put, List.getElem_toArray, List.getElem_cons_succ, List.getElem_cons_zero, List.setIfInBounds_toArray, List.set_cons_zero, List.set_cons_succ])
      refine wpAnyH_done (by kernel_rfl) ?_ _
      clear hHeld
      go_wp2_with fail
      go_ret
      exact ⟨rfl, (by (repeat' first | (with_reducible exact HB.out) | with_reducible refine setCells_below _ _ _ ?_ (by first | omega | (simp <;> omega)) | with_reducible refine Below.setCell ?_ (by show _ ≤ _; first | omega | (simp <;> omega) | simp) _ | with_reducible refine Below.alloc ?_ (by first | omega | (simp <;> omega)) _ | with_reducible apply Below.drew | with_reducible refine below_drewN ?_ _))⟩
    have hz2 : (a.a.re != 0) = true := by simp [hz]
    have hE := HL.out HS1b.out.symm HS2b.out.symm HT1b.out.symm HT2b.out.symm hz
    clear hz
    cases hp : gPure a
    · skip
      have hp2 : gPure b = false := by rw [← hE]; exact hp
      clear hE
      go_wp2_with fail
      refine wp_region_held_drew (S := (fun w' => (w'.cell? ⟨w1.heap.size + 1, 0, none⟩ = some (.int .i64 b.a.re) ∧ w'.cell? ⟨w1.heap.size + 1, 1, none⟩ = some (.int .i64 b.a.im) ∧ w'.cell? ⟨w1.heap.size + 1, 2, none⟩ = some (.int .i64 b.a.den) ∧ w'.cell? ⟨w1.heap.size + 1, 3, none⟩ = some (.int .i64 b.b.re) ∧ w'.cell? ⟨w1.heap.size + 1, 4, none⟩ = some (.int .i64 b.b.im) ∧ w'.cell? ⟨w1.heap.size + 1, 5, none⟩ = some (.int .i64 b.b.den) ∧ w'.cell? ⟨w1.heap.size + 1, 6, none⟩ = some (.int .i64 b.c.re) ∧ w'.cell? ⟨w1.heap.size + 1, 7, none⟩ = some (.int .i64 b.c.im) ∧ w'.cell? ⟨w1.heap.size + 1, 8, none⟩ = some (.int .i64 b.c.den) ∧ w'.cell? ⟨w1.heap.size + 1, 9, none⟩ = some (.int .i64 b.d.re) ∧ w'.cell? ⟨w1.heap.size + 1, 10, none⟩ = some (.int .i64 b.d.im) ∧ w'.cell? ⟨w1.heap.size + 1, 11, none⟩ = some (.int .i64 b.d.den)) ∧ (w'.cell? ⟨w1.heap.size, 0, none⟩ = some (.int .i64 a.a.re) ∧ w'.cell? ⟨w1.heap.size, 1, none⟩ = some (.int .i64 a.a.im) ∧ w'.cell? ⟨w1.heap.size, 2, none⟩ = some (.int .i64 a.a.den) ∧ w'.cell? ⟨w1.heap.size, 3, none⟩ = some (.int .i64 a.b.re) ∧ w'.cell? ⟨w1.heap.size, 4, none⟩ = some (.int .i64 a.b.im) ∧ w'.cell? ⟨w1.heap.size, 5, none⟩ = some (.int .i64 a.b.den) ∧ w'.cell? ⟨w1.heap.size, 6, none⟩ = some (.int .i64 a.c.re) ∧ w'.cell? ⟨w1.heap.size, 7, none⟩ = some (.int .i64 a.c.im) ∧ w'.cell? ⟨w1.heap.size, 8, none⟩ = some (.int .i64 a.c.den) ∧ w'.cell? ⟨w1.heap.size, 9, none⟩ = some (.int .i64 a.d.re) ∧ w'.cell? ⟨w1.heap.size, 10, none⟩ = some (.int .i64 a.d.im) ∧ w'.cell? ⟨w1.heap.size, 11, none⟩ = some (.int .i64 a.d.den)))) (by kernel_rfl) (show _ from ⟨(cellsM (show World.rangeAt (World.drew (w7.alloc (.cells #[.int .i64 t2.re, .int .i64 t2.im, .int .i64 t2.den] 24))) (w1.heap.size + 1) 0 [.int .i64 b.a.re, .int .i64 b.a.im, .int .i64 b.a.den, .int .i64 b.b.re, .int .i64 b.b.im, .int .i64 b.b.den, .int .i64 b.c.re, .int .i64 b.c.im, .int .i64 b.c.den, .int .i64 b.d.re, .int .i64 b.d.im, .int .i64 b.d.den] from (World.rangeAt_alloc Hb.out _))), (cellsM (show World.rangeAt (World.drew (w7.alloc (.cells #[.int .i64 t2.re, .int .i64 t2.im, .int .i64 t2.den] 24))) (w1.heap.size) 0 [.int .i64 a.a.re, .int .i64 a.a.im, .int .i64 a.a.den, .int .i64 a.b.re, .int .i64 a.b.im, .int .i64 a.b.den, .int .i64 a.c.re, .int .i64 a.c.im, .int .i64 a.c.den, .int .i64 a.d.re, .int .i64 a.d.im, .int .i64 a.d.den] from (World.rangeAt_alloc Ha.out _)))⟩) (fun hHeld => ?_)
      refine wpAnyH_take (i := 0) (v := ?_) rfl (by kernel_rfl) (by kernel_rfl) (by kernel_rfl) (fun _ _ _ h => h) (Or.inl ⟨by rfl, ?_⟩) (by assumption) ?_
      rotate_left
      (focus (intro w hSw; (try dsimp only at hSw); go_simp; (try with_reducible rfl)))
      (try simp only [Act.put, List.getElem_toArray, List.getElem_cons_succ, List.getElem_cons_zero, List.setIfInBounds_toArray, List.set_cons_zero, List.set_cons_succ])
      refine wpAnyH_take (i := 1) (v := ?_) rfl (by kernel_rfl) (by kernel_rfl) (by kernel_rfl) (fun _ _ _ h => h) (Or.inl ⟨by rfl, ?_⟩) (by assumption) ?_
      rotate_left
      (focus (intro w hSw; (try dsimp only at hSw); go_simp; (try with_reducible rfl)))
      (try simp only [Act.put, List.getElem_toArray, List.getElem_cons_succ, List.getElem_cons_zero, List.setIfInBounds_toArray, List.set_cons_zero, List.set_cons_succ])
      refine wpAnyH_ready (rs := [2]) (by kernel_rfl) (by simp) ?_
      refine AllReadyH.cons rfl (fun K hK => ?_) AllReadyH.nil
      go_simp
      go_at_call 15
      (with_reducible refine (isal_any b a _).mono ?_)
      rintro e w8 ho
      rw [hl2] at ho
      obtain ⟨rfl, hb⟩ : e = .returned (.bool true) ∧ Below _ _ _ := (id ho)
      clear ho
      have HB := Lib.hid (show Below w.heap.size w w8 from HB.out.trans ((show Below _ _ _ from (((Below.refl _ _).alloc (by first | omega | (simp; done) | (simp <;> omega)) _).drew)).trans (hb.mono (by first | omega | (simp <;> omega)))))
      have Ha : Hid (w8.rangeAt (w1.heap.size) 0 [.int .i64 a.a.re, .int .i64 a.a.im, .int .i64 a.a.den, .int .i64 a.b.re, .int .i64 a.b.im, .int .i64 a.b.den, .int .i64 a.c.re, .int .i64 a.c.im, .int .i64 a.c.den, .int .i64 a.d.re, .int .i64 a.d.im, .int .i64 a.d.den]) := rangeAt_below (show World.rangeAt (World.drew (w7.alloc (.cells #[.int .i64 t2.re, .int .i64 t2.im, .int .i64 t2.den] 24))) (w1.heap.size) 0 [.int .i64 a.a.re, .int .i64 a.a.im, .int .i64 a.a.den, .int .i64 a.b.re, .int .i64 a.b.im, .int .i64 a.b.den, .int .i64 a.c.re, .int .i64 a.c.im, .int .i64 a.c.den, .int .i64 a.d.re, .int .i64 a.d.im, .int .i64 a.d.den] from (World.rangeAt_alloc Ha.out _)) hb (by first | omega | (simp; done) | (simp <;> omega))
      have Hb : Hid (w8.rangeAt (w1.heap.size + 1) 0 [.int .i64 b.a.re, .int .i64 b.a.im, .int .i64 b.a.den, .int .i64 b.b.re, .int .i64 b.b.im, .int .i64 b.b.den, .int .i64 b.c.re, .int .i64 b.c.im, .int .i64 b.c.den, .int .i64 b.d.re, .int .i64 b.d.im, .int .i64 b.d.den]) := rangeAt_below (show World.rangeAt (World.drew (w7.alloc (.cells #[.int .i64 t2.re, .int .i64 t2.im, .int .i64 t2.den] 24))) (w1.heap.size + 1) 0 [.int .i64 b.a.re, .int .i64 b.a.im, .int .i64 b.a.den, .int .i64 b.b.re, .int .i64 b.b.im, .int .i64 b.b.den, .int .i64 b.c.re, .int .i64 b.c.im, .int .i64 b.c.den, .int .i64 b.d.re, .int .i64 b.d.im, .int .i64 b.d.den] from (World.rangeAt_alloc Hb.out _)) hb (by first | omega | (simp; done) | (simp <;> omega))
      have Hs1 : Hid (w8.rangeAt (w4.heap.size) 0 [.int .i64 s1.re, .int .i64 s1.im, .int .i64 s1.den]) := rangeAt_below (show World.rangeAt (World.drew (w7.alloc (.cells #[.int .i64 t2.re, .int .i64 t2.im, .int .i64 t2.den] 24))) (w4.heap.size) 0 [.int .i64 s1.re, .int .i64 s1.im, .int .i64 s1.den] from (World.rangeAt_alloc Hs1.out _)) hb (by first | omega | (simp; done) | (simp <;> omega))
      have Hs2 : Hid (w8.rangeAt (w5.heap.size) 0 [.int .i64 s2.re, .int .i64 s2.im, .int .i64 s2.den]) := rangeAt_below (show World.rangeAt (World.drew (w7.alloc (.cells #[.int .i64 t2.re, .int .i64 t2.im, .int .i64 t2.den] 24))) (w5.heap.size) 0 [.int .i64 s2.re, .int .i64 s2.im, .int .i64 s2.den] from (World.rangeAt_alloc Hs2.out _)) hb (by first | omega | (simp; done) | (simp <;> omega))
      have Ht1 : Hid (w8.rangeAt (w6.heap.size) 0 [.int .i64 t1.re, .int .i64 t1.im, .int .i64 t1.den]) := rangeAt_below (show World.rangeAt (World.drew (w7.alloc (.cells #[.int .i64 t2.re, .int .i64 t2.im, .int .i64 t2.den] 24))) (w6.heap.size) 0 [.int .i64 t1.re, .int .i64 t1.im, .int .i64 t1.den] from (World.rangeAt_alloc Ht1.out _)) hb (by first | omega | (simp; done) | (simp <;> omega))
      have Ht2 : Hid (w8.rangeAt (w7.heap.size) 0 [.int .i64 t2.re, .int .i64 t2.im, .int .i64 t2.den]) := rangeAt_below (show World.rangeAt (World.drew (w7.alloc (.cells #[.int .i64 t2.re, .int .i64 t2.im, .int .i64 t2.den] 24))) (w7.heap.size) 0 [.int .i64 t2.re, .int .i64 t2.im, .int .i64 t2.den] from (rangeAt_new _ _ _)) hb (by first | omega | (simp; done) | (simp <;> omega))
      have hz8 := hb.size
      (try simp at hz8)
      clear hb
      have nA0 : w1.heap.size < w8.heap.size := by omega
      have nB0 : ¬ w1.heap.size = w8.heap.size := by omega
      have nC0 : ¬ w8.heap.size = w1.heap.size := by omega
      have nA1 : w1.heap.size + 1 < w8.heap.size := by omega
      have nB1 : ¬ w1.heap.size + 1 = w8.heap.size := by omega
      have nC1 : ¬ w8.heap.size = w1.heap.size + 1 := by omega
      have nA2 : w4.heap.size < w8.heap.size := by omega
      have nB2 : ¬ w4.heap.size = w8.heap.size := by omega
      have nC2 : ¬ w8.heap.size = w4.heap.size := by omega
      have nA3 : w5.heap.size < w8.heap.size := by omega
      have nB3 : ¬ w5.heap.size = w8.heap.size := by omega
      have nC3 : ¬ w8.heap.size = w5.heap.size := by omega
      have nA4 : w6.heap.size < w8.heap.size := by omega
      have nB4 : ¬ w6.heap.size = w8.heap.size := by omega
      have nC4 : ¬ w8.heap.size = w6.heap.size := by omega
      have nA5 : w7.heap.size < w8.heap.size := by omega
      have nB5 : ¬ w7.heap.size = w8.heap.size := by omega
      have nC5 : ¬ w8.heap.size = w7.heap.size := by omega
      refine hK.out _ _ (show _ from ⟨(cellsM Hb.out), (cellsM Ha.out)⟩) (fun hHeld => ?_)
      clear hK K
      (try simp only [Act.put, List.getElem_toArray, List.getElem_cons_succ, List.getElem_cons_zero, List.setIfInBounds_toArray, List.set_cons_zero, List.set_cons_succ])
      refine wpAnyH_take (i := 3) (v := ?_) rfl (by kernel_rfl) (by kernel_rfl) (by kernel_rfl) (fun _ _ _ h => h) (Or.inl ⟨by rfl, ?_⟩) (by assumption) ?_
      rotate_left
      (focus (intro w hSw; (try dsimp only at hSw); go_simp; (try with_reducible rfl)))
      (try simp only [Act.put, List.getElem_toArray, List.getElem_cons_succ, List.getElem_cons_zero, List.setIfInBounds_toArray, List.set_cons_zero, List.set_cons_succ])
      refine wpAnyH_take (i := 4) (v := ?_) rfl (by kernel_rfl) (by kernel_rfl) (by kernel_rfl) (fun _ _ _ h => h) (Or.inl ⟨by rfl, ?_⟩) (by assumption) ?_
      rotate_left
      (focus (intro w hSw; (try dsimp only at hSw); go_simp; (try with_reducible rfl)))
      (try simp only [Act.put, List.getElem_toArray, List.getElem_cons_succ, List.getElem_cons_zero, List.setIfInBounds_toArray, List.set_cons_zero, List.set_cons_succ])
      refine wpAnyH_take (i := 5) (v := ?_) rfl (by kernel_rfl) (by kernel_rfl) (by kernel_rfl) (fun _ _ _ h => h) (Or.inl ⟨by rfl, ?_⟩) (by assumption) ?_
      rotate_left
      (focus (intro w hSw; (try dsimp only at hSw); go_simp; (try with_reducible rfl)))
      (try simp only [Act.put, List.getElem_toArray, List.getElem_cons_succ, List.getElem_cons_zero, List.setIfInBounds_toArray, List.set_cons_zero, List.set_cons_succ])
      refine wpAnyH_take (i := 6) (v := ?_) rfl (by kernel_rfl) (by kernel_rfl) (by kernel_rfl) (fun _ _ _ h => h) (Or.inl ⟨by rfl, ?_⟩) (by assumption) ?_
      rotate_left
      (focus (intro w hSw; (try dsimp only at hSw); go_simp; (try with_reducible rfl)))
      (try simp only [Act.put, List.getElem_toArray, List.getElem_cons_succ, List.getElem_cons_zero, List.setIfInBounds_toArray, List.set_cons_zero, List.set_cons_succ])
      refine wpAnyH_take (i := 7) (v := ?_) rfl (by kernel_rfl) (by kernel_rfl) (by kernel_rfl) (fun _ _ _ h => h) (Or.inl ⟨by rfl, ?_⟩) (by assumption) ?_
      rotate_left
      (focus (intro w hSw; (try dsimp only at hSw); go_simp; (try with_reducible rfl)))
      (try simp only [Act.put, List.getElem_toArray, List.getElem_cons_succ, List.getElem_cons_zero, List.setIfInBounds_toArray, List.set_cons_zero, List.set_cons_succ])
      refine wpAnyH_take (i := 9) (v := ?_) rfl (by kernel_rfl) (by kernel_rfl) (by kernel_rfl) (fun _ _ _ h => h) (Or.inl ⟨by rfl, ?_⟩) (by assumption) ?_
      rotate_left
      (focus (intro w hSw; (try dsimp only at hSw); go_simp; (try with_reducible rfl)))
      (try simp only [Act.put, List.getElem_toArray, List.getElem_cons_succ, List.getElem_cons_zero, List.setIfInBounds_toArray, List.set_cons_zero, List.set_cons_succ])
      refine wpAnyH_ready (rs := [8]) (by kernel_rfl) (by simp) ?_
      refine AllReadyH.cons rfl (fun K hK => ?_) AllReadyH.nil
      go_simp
      go_at_call 23
      (with_reducible refine (ipure_any a _).mono ?_)
      rintro e w9 ho
      rw [hp] at ho
      obtain ⟨rfl, hb⟩ : e = .returned (.bool false) ∧ Below _ _ _ := (id ho)
      clear ho
      have HB := Lib.hid (show Below w.heap.size w w9 from HB.out.trans ((show Below _ _ _ from (Below.refl _ _)).trans (hb.mono (by first | omega | (simp <;> omega)))))
      have Ha : Hid (w9.rangeAt (w1.heap.size) 0 [.int .i64 a.a.re, .int .i64 a.a.im, .int .i64 a.a.den, .int .i64 a.b.re, .int .i64 a.b.im, .int .i64 a.b.den, .int .i64 a.c.re, .int .i64 a.c.im, .int .i64 a.c.den, .int .i64 a.d.re, .int .i64 a.d.im, .int .i64 a.d.den]) := rangeAt_below Ha.out hb (by first | omega | (simp; done) | (simp <;> omega))
      have Hb : Hid (w9.rangeAt (w1.heap.size + 1) 0 [.int .i64 b.a.re, .int .i64 b.a.im, .int .i64 b.a.den, .int .i64 b.b.re, .int .i64 b.b.im, .int .i64 b.b.den, .int .i64 b.c.re, .int .i64 b.c.im, .int .i64 b.c.den, .int .i64 b.d.re, .int .i64 b.d.im, .int .i64 b.d.den]) := rangeAt_below Hb.out hb (by first | omega | (simp; done) | (simp <;> omega))
      have Hs1 : Hid (w9.rangeAt (w4.heap.size) 0 [.int .i64 s1.re, .int .i64 s1.im, .int .i64 s1.den]) := rangeAt_below Hs1.out hb (by first | omega | (simp; done) | (simp <;> omega))
      have Hs2 : Hid (w9.rangeAt (w5.heap.size) 0 [.int .i64 s2.re, .int .i64 s2.im, .int .i64 s2.den]) := rangeAt_below Hs2.out hb (by first | omega | (simp; done) | (simp <;> omega))
      have Ht1 : Hid (w9.rangeAt (w6.heap.size) 0 [.int .i64 t1.re, .int .i64 t1.im, .int .i64 t1.den]) := rangeAt_below Ht1.out hb (by first | omega | (simp; done) | (simp <;> omega))
      have Ht2 : Hid (w9.rangeAt (w7.heap.size) 0 [.int .i64 t2.re, .int .i64 t2.im, .int .i64 t2.den]) := rangeAt_below Ht2.out hb (by first | omega | (simp; done) | (simp <;> omega))
      have hz9 := hb.size
      (try simp at hz9)
      clear hb
      have nA0 : w1.heap.size < w9.heap.size := by omega
      have nB0 : ¬ w1.heap.size = w9.heap.size := by omega
      have nC0 : ¬ w9.heap.size = w1.heap.size := by omega
      have nA1 : w1.heap.size + 1 < w9.heap.size := by omega
      have nB1 : ¬ w1.heap.size + 1 = w9.heap.size := by omega
      have nC1 : ¬ w9.heap.size = w1.heap.size + 1 := by omega
      have nA2 : w4.heap.size < w9.heap.size := by omega
      have nB2 : ¬ w4.heap.size = w9.heap.size := by omega
      have nC2 : ¬ w9.heap.size = w4.heap.size := by omega
      have nA3 : w5.heap.size < w9.heap.size := by omega
      have nB3 : ¬ w5.heap.size = w9.heap.size := by omega
      have nC3 : ¬ w9.heap.size = w5.heap.size := by omega
      have nA4 : w6.heap.size < w9.heap.size := by omega
      have nB4 : ¬ w6.heap.size = w9.heap.size := by omega
      have nC4 : ¬ w9.heap.size = w6.heap.size := by omega
      have nA5 : w7.heap.size < w9.heap.size := by omega
      have nB5 : ¬ w7.heap.size = w9.heap.size := by omega
      have nC5 : ¬ w9.heap.size = w7.heap.size := by omega
      refine hK.out _ _ (show _ from ⟨(cellsM Hb.out), (cellsM Ha.out)⟩) (fun hHeld => ?_)
      clear hK K
      (try simp only [Act.put, List.getElem_toArray, List.getElem_cons_succ, List.getElem_cons_zero, List.setIfInBounds_toArray, List.set_cons_zero, List.set_cons_succ])
      refine wpAnyH_ready (rs := [10]) (by kernel_rfl) (by simp) ?_
      refine AllReadyH.cons rfl (fun K hK => ?_) AllReadyH.nil
      go_simp
      go_at_call 23
      (with_reducible refine (ipure_any b _).mono ?_)
      rintro e w10 ho
      rw [hp2] at ho
      obtain ⟨rfl, hb⟩ : e = .returned (.bool false) ∧ Below _ _ _ := (id ho)
      clear ho
      have HB := Lib.hid (show Below w.heap.size w w10 from HB.out.trans ((show Below _ _ _ from (Below.refl _ _)).trans (hb.mono (by first | omega | (simp <;> omega)))))
      have Ha : Hid (w10.rangeAt (w1.heap.size) 0 [.int .i64 a.a.re, .int .i64 a.a.im, .int .i64 a.a.den, .int .i64 a.b.re, .int .i64 a.b.im, .int .i64 a.b.den, .int .i64 a.c.re, .int .i64 a.c.im, .int .i64 a.c.den, .int .i64 a.d.re, .int .i64 a.d.im, .int .i64 a.d.den]) := rangeAt_below Ha.out hb (by first | omega | (simp; done) | (simp <;> omega))
      have Hb : Hid (w10.rangeAt (w1.heap.size + 1) 0 [.int .i64 b.a.re, .int .i64 b.a.im, .int .i64 b.a.den, .int .i64 b.b.re, .int .i64 b.b.im, .int .i64 b.b.den, .int .i64 b.c.re, .int .i64 b.c.im, .int .i64 b.c.den, .int .i64 b.d.re, .int .i64 b.d.im, .int .i64 b.d.den]) := rangeAt_below Hb.out hb (by first | omega | (simp; done) | (simp <;> omega))
      have Hs1 : Hid (w10.rangeAt (w4.heap.size) 0 [.int .i64 s1.re, .int .i64 s1.im, .int .i64 s1.den]) := rangeAt_below Hs1.out hb (by first | omega | (simp; done) | (simp <;> omega))
      have Hs2 : Hid (w10.rangeAt (w5.heap.size) 0 [.int .i64 s2.re, .int .i64 s2.im, .int .i64 s2.den]) := rangeAt_below Hs2.out hb (by first | omega | (simp; done) | (simp <;> omega))
      have Ht1 : Hid (w10.rangeAt (w6.heap.size) 0 [.int .i64 t1.re, .int .i64 t1.im, .int .i64 t1.den]) := rangeAt_below Ht1.out hb (by first | omega | (simp; done) | (simp <;> omega))
      have Ht2 : Hid (w10.rangeAt (w7.heap.size) 0 [.int .i64 t2.re, .int .i64 t2.im, .int .i64 t2.den]) := rangeAt_below Ht2.out hb (by first | omega | (simp; done) | (simp <;> omega))
      have hz10 := hb.size
      (try simp at hz10)
      clear hb
      have nA0 : w1.heap.size < w10.heap.size := by omega
      have nB0 : ¬ w1.heap.size = w10.heap.size := by omega
      have nC0 : ¬ w10.heap.size = w1.heap.size := by omega
      have nA1 : w1.heap.size + 1 < w10.heap.size := by omega
      have nB1 : ¬ w1.heap.size + 1 = w10.heap.size := by omega
      have nC1 : ¬ w10.heap.size = w1.heap.size + 1 := by omega
      have nA2 : w4.heap.size < w10.heap.size := by omega
      have nB2 : ¬ w4.heap.size = w10.heap.size := by omega
      have nC2 : ¬ w10.heap.size = w4.heap.size := by omega
      have nA3 : w5.heap.size < w10.heap.size := by omega
      have nB3 : ¬ w5.heap.size = w10.heap.size := by omega
      have nC3 : ¬ w10.heap.size = w5.heap.size := by omega
      have nA4 : w6.heap.size < w10.heap.size := by omega
      have nB4 : ¬ w6.heap.size = w10.heap.size := by omega
      have nC4 : ¬ w10.heap.size = w6.heap.size := by omega
      have nA5 : w7.heap.size < w10.heap.size := by omega
      have nB5 : ¬ w7.heap.size = w10.heap.size := by omega
      have nC5 : ¬ w10.heap.size = w7.heap.size := by omega
      refine hK.out _ _ (show _ from ⟨(cellsM Hb.out), (cellsM Ha.out)⟩) (fun hHeld => ?_)
      clear hK K
      (try simp only [Act.put, List.getElem_toArray, List.getElem_cons_succ, List.getElem_cons_zero, List.setIfInBounds_toArray, List.set_cons_zero, List.set_cons_succ])
      refine wpAnyH_take (i := 11) (v := ?_) rfl (by kernel_rfl) (by kernel_rfl) (by kernel_rfl) (fun _ _ _ h => h) (Or.inl ⟨by rfl, ?_⟩) (by assumption) ?_
      rotate_left
      (focus (intro w hSw; (try dsimp only at hSw); go_simp; (try with_reducible rfl)))
      (try simp only [Act.put, List.getElem_toArray, List.getElem_cons_succ, List.getElem_cons_zero, List.setIfInBounds_toArray, List.set_cons_zero, List.set_cons_succ])
      refine wpAnyH_take (i := 12) (v := ?_) rfl (by kernel_rfl) (by kernel_rfl) (by kernel_rfl) (fun _ _ _ h => h) (Or.inl ⟨by rfl, ?_⟩) (by assumption) ?_
      rotate_left
      (focus (intro w hSw; (try dsimp only at hSw); go_simp; (try with_reducible rfl)))
      (try simp only [Act.put, List.getElem_toArray, List.getElem_cons_succ, List.getElem_cons_zero, List.setIfInBounds_toArray, List.set_cons_zero, List.set_cons_succ])
      refine wpAnyH_take (i := 13) (v := ?_) rfl (by kernel_rfl) (by kernel_rfl) (by kernel_rfl) (fun _ _ _ h => h) (Or.inl ⟨by rfl, ?_⟩) (by assumption) ?_
      rotate_left
      (focus (intro w hSw; (try dsimp only at hSw); go_simp; (try with_reducible rfl)))
      (try simp only [Act.put, List.getElem_toArray, List.getElem_cons_succ, List.getElem_cons_zero, List.setIfInBounds_toArray, List.set_cons_zero, List.set_cons_succ])
      refine wpAnyH_take (i := 14) (v := ?_) rfl (by kernel_rfl) (by kernel_rfl) (by kernel_rfl) (fun _ _ _ h => h) (Or.inl ⟨by rfl, ?_⟩) (by assumption) ?_
      rotate_left
      (focus (intro w hSw; (try dsimp only at hSw); go_simp; (try with_reducible rfl)))
      (try simp only [Act.put, List.getElem_toArray, List.getElem_cons_succ, List.getElem_cons_zero, List.setIfInBounds_toArray, List.set_cons_zero, List.set_cons_succ])
      refine wpAnyH_done (by kernel_rfl) ?_ _
      clear hHeld
      go_wp2_with fail
      go_ret
      exact ⟨rfl, (by (repeat' first | (with_reducible exact HB.out) | with_reducible refine setCells_below _ _ _ ?_ (by first | omega | (simp <;> omega)) | with_reducible refine Below.setCell ?_ (by show _ ≤ _; first | omega | (simp <;> omega) | simp) _ | with_reducible refine Below.alloc ?_ (by first | omega | (simp <;> omega)) _ | with_reducible apply Below.drew | with_reducible refine below_drewN ?_ _))⟩
    · skip
      have hp2 : gPure b = true := by rw [← hE]; exact hp
      clear hE
      go_wp2_with fail
      refine wp_region_held_drew (S := (fun w' => (w'.cell? ⟨w1.heap.size + 1, 0, none⟩ = some (.int .i64 b.a.re) ∧ w'.cell? ⟨w1.heap.size + 1, 1, none⟩ = some (.int .i64 b.a.im) ∧ w'.cell? ⟨w1.heap.size + 1, 2, none⟩ = some (.int .i64 b.a.den) ∧ w'.cell? ⟨w1.heap.size + 1, 3, none⟩ = some (.int .i64 b.b.re) ∧ w'.cell? ⟨w1.heap.size + 1, 4, none⟩ = some (.int .i64 b.b.im) ∧ w'.cell? ⟨w1.heap.size + 1, 5, none⟩ = some (.int .i64 b.b.den) ∧ w'.cell? ⟨w1.heap.size + 1, 6, none⟩ = some (.int .i64 b.c.re) ∧ w'.cell? ⟨w1.heap.size + 1, 7, none⟩ = some (.int .i64 b.c.im) ∧ w'.cell? ⟨w1.heap.size + 1, 8, none⟩ = some (.int .i64 b.c.den) ∧ w'.cell? ⟨w1.heap.size + 1, 9, none⟩ = some (.int .i64 b.d.re) ∧ w'.cell? ⟨w1.heap.size + 1, 10, none⟩ = some (.int .i64 b.d.im) ∧ w'.cell? ⟨w1.heap.size + 1, 11, none⟩ = some (.int .i64 b.d.den)) ∧ (w'.cell? ⟨w1.heap.size, 0, none⟩ = some (.int .i64 a.a.re) ∧ w'.cell? ⟨w1.heap.size, 1, none⟩ = some (.int .i64 a.a.im) ∧ w'.cell? ⟨w1.heap.size, 2, none⟩ = some (.int .i64 a.a.den) ∧ w'.cell? ⟨w1.heap.size, 3, none⟩ = some (.int .i64 a.b.re) ∧ w'.cell? ⟨w1.heap.size, 4, none⟩ = some (.int .i64 a.b.im) ∧ w'.cell? ⟨w1.heap.size, 5, none⟩ = some (.int .i64 a.b.den) ∧ w'.cell? ⟨w1.heap.size, 6, none⟩ = some (.int .i64 a.c.re) ∧ w'.cell? ⟨w1.heap.size, 7, none⟩ = some (.int .i64 a.c.im) ∧ w'.cell? ⟨w1.heap.size, 8, none⟩ = some (.int .i64 a.c.den) ∧ w'.cell? ⟨w1.heap.size, 9, none⟩ = some (.int .i64 a.d.re) ∧ w'.cell? ⟨w1.heap.size, 10, none⟩ = some (.int .i64 a.d.im) ∧ w'.cell? ⟨w1.heap.size, 11, none⟩ = some (.int .i64 a.d.den)))) (by kernel_rfl) (show _ from ⟨(cellsM (show World.rangeAt (World.drew (w7.alloc (.cells #[.int .i64 t2.re, .int .i64 t2.im, .int .i64 t2.den] 24))) (w1.heap.size + 1) 0 [.int .i64 b.a.re, .int .i64 b.a.im, .int .i64 b.a.den, .int .i64 b.b.re, .int .i64 b.b.im, .int .i64 b.b.den, .int .i64 b.c.re, .int .i64 b.c.im, .int .i64 b.c.den, .int .i64 b.d.re, .int .i64 b.d.im, .int .i64 b.d.den] from (World.rangeAt_alloc Hb.out _))), (cellsM (show World.rangeAt (World.drew (w7.alloc (.cells #[.int .i64 t2.re, .int .i64 t2.im, .int .i64 t2.den] 24))) (w1.heap.size) 0 [.int .i64 a.a.re, .int .i64 a.a.im, .int .i64 a.a.den, .int .i64 a.b.re, .int .i64 a.b.im, .int .i64 a.b.den, .int .i64 a.c.re, .int .i64 a.c.im, .int .i64 a.c.den, .int .i64 a.d.re, .int .i64 a.d.im, .int .i64 a.d.den] from (World.rangeAt_alloc Ha.out _)))⟩) (fun hHeld => ?_)
      refine wpAnyH_take (i := 0) (v := ?_) rfl (by kernel_rfl) (by kernel_rfl) (by kernel_rfl) (fun _ _ _ h => h) (Or.inl ⟨by rfl, ?_⟩) (by assumption) ?_
      rotate_left
      (focus (intro w hSw; (try dsimp only at hSw); go_simp; (try with_reducible rfl)))
      (try simp only [Act.put, List.getElem_toArray, List.getElem_cons_succ, List.getElem_cons_zero, List.setIfInBounds_toArray, List.set_cons_zero, List.set_cons_succ])
      refine wpAnyH_take (i := 1) (v := ?_) rfl (by kernel_rfl) (by kernel_rfl) (by kernel_rfl) (fun _ _ _ h => h) (Or.inl ⟨by rfl, ?_⟩) (by assumption) ?_
      rotate_left
      (focus (intro w hSw; (try dsimp only at hSw); go_simp; (try with_reducible rfl)))
      (try simp only [Act.put, List.getElem_toArray, List.getElem_cons_succ, List.getElem_cons_zero, List.setIfInBounds_toArray, List.set_cons_zero, List.set_cons_succ])
      refine wpAnyH_ready (rs := [2]) (by kernel_rfl) (by simp) ?_
      refine AllReadyH.cons rfl (fun K hK => ?_) AllReadyH.nil
      go_simp
      go_at_call 15
      (with_reducible refine (isal_any b a _).mono ?_)
      rintro e w8 ho
      rw [hl2] at ho
      obtain ⟨rfl, hb⟩ : e = .returned (.bool true) ∧ Below _ _ _ := (id ho)
      clear ho
      have HB := Lib.hid (show Below w.heap.size w w8 from HB.out.trans ((show Below _ _ _ from (((Below.refl _ _).alloc (by first | omega | (simp; done) | (simp <;> omega)) _).drew)).trans (hb.mono (by first | omega | (simp <;> omega)))))
      have Ha : Hid (w8.rangeAt (w1.heap.size) 0 [.int .i64 a.a.re, .int .i64 a.a.im, .int .i64 a.a.den, .int .i64 a.b.re, .int .i64 a.b.im, .int .i64 a.b.den, .int .i64 a.c.re, .int .i64 a.c.im, .int .i64 a.c.den, .int .i64 a.d.re, .int .i64 a.d.im, .int .i64 a.d.den]) := rangeAt_below (show World.rangeAt (World.drew (w7.alloc (.cells #[.int .i64 t2.re, .int .i64 t2.im, .int .i64 t2.den] 24))) (w1.heap.size) 0 [.int .i64 a.a.re, .int .i64 a.a.im, .int .i64 a.a.den, .int .i64 a.b.re, .int .i64 a.b.im, .int .i64 a.b.den, .int .i64 a.c.re, .int .i64 a.c.im, .int .i64 a.c.den, .int .i64 a.d.re, .int .i64 a.d.im, .int .i64 a.d.den] from (World.rangeAt_alloc Ha.out _)) hb (by first | omega | (simp; done) | (simp <;> omega))
      have Hb : Hid (w8.rangeAt (w1.heap.size + 1) 0 [.int .i64 b.a.re, .int .i64 b.a.im, .int .i64 b.a.den, .int .i64 b.b.re, .int .i64 b.b.im, .int .i64 b.b.den, .int .i64 b.c.re, .int .i64 b.c.im, .int .i64 b.c.den, .int .i64 b.d.re, .int .i64 b.d.im, .int .i64 b.d.den]) := rangeAt_below (show World.rangeAt (World.drew (w7.alloc (.cells #[.int .i64 t2.re, .int .i64 t2.im, .int .i64 t2.den] 24))) (w1.heap.size + 1) 0 [.int .i64 b.a.re, .int .i64 b.a.im, .int .i64 b.a.den, .int .i64 b.b.re, .int .i64 b.b.im, .int .i64 b.b.den, .int .i64 b.c.re, .int .i64 b.c.im, .int .i64 b.c.den, .int .i64 b.d.re, .int .i64 b.d.im, .int .i64 b.d.den] from (World.rangeAt_alloc Hb.out _)) hb (by first | omega | (simp; done) | (simp <;> omega))
      have Hs1 : Hid (w8.rangeAt (w4.heap.size) 0 [.int .i64 s1.re, .int .i64 s1.im, .int .i64 s1.den]) := rangeAt_below (show World.rangeAt (World.drew (w7.alloc (.cells #[.int .i64 t2.re, .int .i64 t2.im, .int .i64 t2.den] 24))) (w4.heap.size) 0 [.int .i64 s1.re, .int .i64 s1.im, .int .i64 s1.den] from (World.rangeAt_alloc Hs1.out _)) hb (by first | omega | (simp; done) | (simp <;> omega))
      have Hs2 : Hid (w8.rangeAt (w5.heap.size) 0 [.int .i64 s2.re, .int .i64 s2.im, .int .i64 s2.den]) := rangeAt_below (show World.rangeAt (World.drew (w7.alloc (.cells #[.int .i64 t2.re, .int .i64 t2.im, .int .i64 t2.den] 24))) (w5.heap.size) 0 [.int .i64 s2.re, .int .i64 s2.im, .int .i64 s2.den] from (World.rangeAt_alloc Hs2.out _)) hb (by first | omega | (simp; done) | (simp <;> omega))
      have Ht1 : Hid (w8.rangeAt (w6.heap.size) 0 [.int .i64 t1.re, .int .i64 t1.im, .int .i64 t1.den]) := rangeAt_below (show World.rangeAt (World.drew (w7.alloc (.cells #[.int .i64 t2.re, .int .i64 t2.im, .int .i64 t2.den] 24))) (w6.heap.size) 0 [.int .i64 t1.re, .int .i64 t1.im, .int .i64 t1.den] from (World.rangeAt_alloc Ht1.out _)) hb (by first | omega | (simp; done) | (simp <;> omega))
      have Ht2 : Hid (w8.rangeAt (w7.heap.size) 0 [.int .i64 t2.re, .int .i64 t2.im, .int .i64 t2.den]) := rangeAt_below (show World.rangeAt (World.drew (w7.alloc (.cells #[.int .i64 t2.re, .int .i64 t2.im, .int .i64 t2.den] 24))) (w7.heap.size) 0 [.int .i64 t2.re, .int .i64 t2.im, .int .i64 t2.den] from (rangeAt_new _ _ _)) hb (by first | omega | (simp; done) | (simp <;> omega))
      have hz8 := hb.size
      (try simp at hz8)
      clear hb
      have nA0 : w1.heap.size < w8.heap.size := by omega
      have nB0 : ¬ w1.heap.size = w8.heap.size := by omega
      have nC0 : ¬ w8.heap.size = w1.heap.size := by omega
      have nA1 : w1.heap.size + 1 < w8.heap.size := by omega
      have nB1 : ¬ w1.heap.size + 1 = w8.heap.size := by omega
      have nC1 : ¬ w8.heap.size = w1.heap.size + 1 := by omega
      have nA2 : w4.heap.size < w8.heap.size := by omega
      have nB2 : ¬ w4.heap.size = w8.heap.size := by omega
      have nC2 : ¬ w8.heap.size = w4.heap.size := by omega
      have nA3 : w5.heap.size < w8.heap.size := by omega
      have nB3 : ¬ w5.heap.size = w8.heap.size := by omega
      have nC3 : ¬ w8.heap.size = w5.heap.size := by omega
      have nA4 : w6.heap.size < w8.heap.size := by omega
      have nB4 : ¬ w6.heap.size = w8.heap.size := by omega
      have nC4 : ¬ w8.heap.size = w6.heap.size := by omega
      have nA5 : w7.heap.size < w8.heap.size := by omega
      have nB5 : ¬ w7.heap.size = w8.heap.size := by omega
      have nC5 : ¬ w8.heap.size = w7.heap.size := by omega
      refine hK.out _ _ (show _ from ⟨(cellsM Hb.out), (cellsM Ha.out)⟩) (fun hHeld => ?_)
      clear hK K
      (try simp only [Act.put, List.getElem_toArray, List.getElem_cons_succ, List.getElem_cons_zero, List.setIfInBounds_toArray, List.set_cons_zero, List.set_cons_succ])
      refine wpAnyH_take (i := 3) (v := ?_) rfl (by kernel_rfl) (by kernel_rfl) (by kernel_rfl) (fun _ _ _ h => h) (Or.inl ⟨by rfl, ?_⟩) (by assumption) ?_
      rotate_left
      (focus (intro w hSw; (try dsimp only at hSw); go_simp; (try with_reducible rfl)))
      (try simp only [Act.put, List.getElem_toArray, List.getElem_cons_succ, List.getElem_cons_zero, List.setIfInBounds_toArray, List.set_cons_zero, List.set_cons_succ])
      refine wpAnyH_take (i := 4) (v := ?_) rfl (by kernel_rfl) (by kernel_rfl) (by kernel_rfl) (fun _ _ _ h => h) (Or.inl ⟨by rfl, ?_⟩) (by assumption) ?_
      rotate_left
      (focus (intro w hSw; (try dsimp only at hSw); go_simp; (try with_reducible rfl)))
      (try simp only [Act.put, List.getElem_toArray, List.getElem_cons_succ, List.getElem_cons_zero, List.setIfInBounds_toArray, List.set_cons_zero, List.set_cons_succ])
      refine wpAnyH_take (i := 5) (v := ?_) rfl (by kernel_rfl) (by kernel_rfl) (by kernel_rfl) (fun _ _ _ h => h) (Or.inl ⟨by rfl, ?_⟩) (by assumption) ?_
      rotate_left
      (focus (intro w hSw; (try dsimp only at hSw); go_simp; (try with_reducible rfl)))
      (try simp only [Act.put, List.getElem_toArray, List.getElem_cons_succ, List.getElem_cons_zero, List.setIfInBounds_toArray, List.set_cons_zero, List.set_cons_succ])
      refine wpAnyH_take (i := 6) (v := ?_) rfl (by kernel_rfl) (by kernel_rfl) (by kernel_rfl) (fun _ _ _ h => h) (Or.inl ⟨by rfl, ?_⟩) (by assumption) ?_
      rotate_left
      (focus (intro w hSw; (try dsimp only at hSw); go_simp; (try with_reducible rfl)))
      (try simp only [Act.put, List.getElem_toArray, List.getElem_cons_succ, List.getElem_cons_zero, List.setIfInBounds_toArray, List.set_cons_zero, List.set_cons_succ])
      refine wpAnyH_take (i := 7) (v := ?_) rfl (by kernel_rfl) (by kernel_rfl) (by kernel_rfl) (fun _ _ _ h => h) (Or.inl ⟨by rfl, ?_⟩) (by assumption) ?_
      rotate_left
      (focus (intro w hSw; (try dsimp only at hSw); go_simp; (try with_reducible rfl)))
      (try simp only [Act.put, List.getElem_toArray, List.getElem_cons_succ, List.getElem_cons_zero, List.setIfInBounds_toArray, List.set_cons_zero, List.set_cons_succ])
      refine wpAnyH_take (i := 9) (v := ?_) rfl (by kernel_rfl) (by kernel_rfl) (by kernel_rfl) (fun _ _ _ h => h) (Or.inl ⟨by rfl, ?_⟩) (by assumption) ?_
      rotate_left
      (focus (intro w hSw; (try dsimp only at hSw); go_simp; (try with_reducible rfl)))
      (try simp only [Act.put, List.getElem_toArray, List.getElem_cons_succ, List.getElem_cons_zero, List.setIfInBounds_toArray, List.set_cons_zero, List.set_cons_succ])
      refine wpAnyH_ready (rs := [8]) (by kernel_rfl) (by simp) ?_
      refine AllReadyH.cons rfl (fun K hK => ?_) AllReadyH.nil
      go_simp
      go_at_call 23
      (with_reducible refine (ipure_any a _).mono ?_)
      rintro e w9 ho
      rw [hp] at ho
      obtain ⟨rfl, hb⟩ : e = .returned (.bool true) ∧ Below _ _ _ := (id ho)
      clear ho
      have HB := Lib.hid (show Below w.heap.size w w9 from HB.out.trans ((show Below _ _ _ from (Below.refl _ _)).trans (hb.mono (by first | omega | (simp <;> omega)))))
      have Ha : Hid (w9.rangeAt (w1.heap.size) 0 [.int .i64 a.a.re, .int .i64 a.a.im, .int .i64 a.a.den, .int .i64 a.b.re, .int .i64 a.b.im, .int .i64 a.b.den, .int .i64 a.c.re, .int .i64 a.c.im, .int .i64 a.c.den, .int .i64 a.d.re, .int .i64 a.d.im, .int .i64 a.d.den]) := rangeAt_below Ha.out hb (by first | omega | (simp; done) | (simp <;> omega))
      have Hb : Hid (w9.rangeAt (w1.heap.size + 1) 0 [.int .i64 b.a.re, .int .i64 b.a.im, .int .i64 b.a.den, .int .i64 b.b.re, .int .i64 b.b.im, .int .i64 b.b.den, .int .i64 b.c.re, .int .i64 b.c.im, .int .i64 b.c.den, .int .i64 b.d.re, .int .i64 b.d.im, .int .i64 b.d.den]) := rangeAt_below Hb.out hb (by first | omega | (simp; done) | (simp <;> omega))
      have Hs1 : Hid (w9.rangeAt (w4.heap.size) 0 [.int .i64 s1.re, .int .i64 s1.im, .int .i64 s1.den]) := rangeAt_below Hs1.out hb (by first | omega | (simp; done) | (simp <;> omega))
      have Hs2 : Hid (w9.rangeAt (w5.heap.size) 0 [.int .i64 s2.re, .int .i64 s2.im, .int .i64 s2.den]) := rangeAt_below Hs2.out hb (by first | omega | (simp; done) | (simp <;> omega))
      have Ht1 : Hid (w9.rangeAt (w6.heap.size) 0 [.int .i64 t1.re, .int .i64 t1.im, .int .i64 t1.den]) := rangeAt_below Ht1.out hb (by first | omega | (simp; done) | (simp <;> omega))
      have Ht2 : Hid (w9.rangeAt (w7.heap.size) 0 [.int .i64 t2.re, .int .i64 t2.im, .int .i64 t2.den]) := rangeAt_below Ht2.out hb (by first | omega | (simp; done) | (simp <;> omega))
      have hz9 := hb.size
      (try simp at hz9)
      clear hb
      have nA0 : w1.heap.size < w9.heap.size := by omega
      have nB0 : ¬ w1.heap.size = w9.heap.size := by omega
      have nC0 : ¬ w9.heap.size = w1.heap.size := by omega
      have nA1 : w1.heap.size + 1 < w9.heap.size := by omega
      have nB1 : ¬ w1.heap.size + 1 = w9.heap.size := by omega
      have nC1 : ¬ w9.heap.size = w1.heap.size + 1 := by omega
      have nA2 : w4.heap.size < w9.heap.size := by omega
      have nB2 : ¬ w4.heap.size = w9.heap.size := by omega
      have nC2 : ¬ w9.heap.size = w4.heap.size := by omega
      have nA3 : w5.heap.size < w9.heap.size := by omega
      have nB3 : ¬ w5.heap.size = w9.heap.size := by omega
      have nC3 : ¬ w9.heap.size = w5.heap.size := by omega
      have nA4 : w6.heap.size < w9.heap.size := by omega
      have nB4 : ¬ w6.heap.size = w9.heap.size := by omega
      have nC4 : ¬ w9.heap.size = w6.heap.size := by omega
      have nA5 : w7.heap.size < w9.heap.size := by omega
      have nB5 : ¬ w7.heap.size = w9.heap.size := by omega
      have nC5 : ¬ w9.heap.size = w7.heap.size := by omega
      refine hK.out _ _ (show _ from ⟨(cellsM Hb.out), (cellsM Ha.out)⟩) (fun hHeld => ?_)
      clear hK K
      (try simp only [Act.put, List.getElem_toArray, List.getElem_cons_succ, List.getElem_cons_zero, List.setIfInBounds_toArray, List.set_cons_zero, List.set_cons_succ])
      refine wpAnyH_ready (rs := [10]) (by kernel_rfl) (by simp) ?_
      refine AllReadyH.cons rfl (fun K hK => ?_) AllReadyH.nil
      go_simp
      go_at_call 23
      (with_reducible refine (ipure_any b _).mono ?_)
      rintro e w10 ho
      rw [hp2] at ho
      obtain ⟨rfl, hb⟩ : e = .returned (.bool true) ∧ Below _ _ _ := (id ho)
      clear ho
      have HB := Lib.hid (show Below w.heap.size w w10 from HB.out.trans ((show Below _ _ _ from (Below.refl _ _)).trans (hb.mono (by first | omega | (simp <;> omega)))))
      have Ha : Hid (w10.rangeAt (w1.heap.size) 0 [.int .i64 a.a.re, .int .i64 a.a.im, .int .i64 a.a.den, .int .i64 a.b.re, .int .i64 a.b.im, .int .i64 a.b.den, .int .i64 a.c.re, .int .i64 a.c.im, .int .i64 a.c.den, .int .i64 a.d.re, .int .i64 a.d.im, .int .i64 a.d.den]) := rangeAt_below Ha.out hb (by first | omega | (simp; done) | (simp <;> omega))
      have Hb : Hid (w10.rangeAt (w1.heap.size + 1) 0 [.int .i64 b.a.re, .int .i64 b.a.im, .int .i64 b.a.den, .int .i64 b.b.re, .int .i64 b.b.im, .int .i64 b.b.den, .int .i64 b.c.re, .int .i64 b.c.im, .int .i64 b.c.den, .int .i64 b.d.re, .int .i64 b.d.im, .int .i64 b.d.den]) := rangeAt_below Hb.out hb (by first | omega | (simp; done) | (simp <;> omega))
      have Hs1 : Hid (w10.rangeAt (w4.heap.size) 0 [.int .i64 s1.re, .int .i64 s1.im, .int .i64 s1.den]) := rangeAt_below Hs1.out hb (by first | omega | (simp; done) | (simp <;> omega))
      have Hs2 : Hid (w10.rangeAt (w5.heap.size) 0 [.int .i64 s2.re, .int .i64 s2.im, .int .i64 s2.den]) := rangeAt_below Hs2.out hb (by first | omega | (simp; done) | (simp <;> omega))
      have Ht1 : Hid (w10.rangeAt (w6.heap.size) 0 [.int .i64 t1.re, .int .i64 t1.im, .int .i64 t1.den]) := rangeAt_below Ht1.out hb (by first | omega | (simp; done) | (simp <;> omega))
      have Ht2 : Hid (w10.rangeAt (w7.heap.size) 0 [.int .i64 t2.re, .int .i64 t2.im, .int .i64 t2.den]) := rangeAt_below Ht2.out hb (by first | omega | (simp; done) | (simp <;> omega))
      have hz10 := hb.size
      (try simp at hz10)
      clear hb
      have nA0 : w1.heap.size < w10.heap.size := by omega
      have nB0 : ¬ w1.heap.size = w10.heap.size := by omega
      have nC0 : ¬ w10.heap.size = w1.heap.size := by omega
      have nA1 : w1.heap.size + 1 < w10.heap.size := by omega
      have nB1 : ¬ w1.heap.size + 1 = w10.heap.size := by omega
      have nC1 : ¬ w10.heap.size = w1.heap.size + 1 := by omega
      have nA2 : w4.heap.size < w10.heap.size := by omega
      have nB2 : ¬ w4.heap.size = w10.heap.size := by omega
      have nC2 : ¬ w10.heap.size = w4.heap.size := by omega
      have nA3 : w5.heap.size < w10.heap.size := by omega
      have nB3 : ¬ w5.heap.size = w10.heap.size := by omega
      have nC3 : ¬ w10.heap.size = w5.heap.size := by omega
      have nA4 : w6.heap.size < w10.heap.size := by omega
      have nB4 : ¬ w6.heap.size = w10.heap.size := by omega
      have nC4 : ¬ w10.heap.size = w6.heap.size := by omega
      have nA5 : w7.heap.size < w10.heap.size := by omega
      have nB5 : ¬ w7.heap.size = w10.heap.size := by omega
      have nC5 : ¬ w10.heap.size = w7.heap.size := by omega
      refine hK.out _ _ (show _ from ⟨(cellsM Hb.out), (cellsM Ha.out)⟩) (fun hHeld => ?_)
      clear hK K
      (try simp only [Act.put, List.getElem_toArray, List.getElem_cons_succ, List.getElem_cons_zero, List.setIfInBounds_toArray, List.set_cons_zero, List.set_cons_succ])
      refine wpAnyH_take (i := 11) (v := ?_) rfl (by kernel_rfl) (by kernel_rfl) (by kernel_rfl) (fun _ _ _ h => h) (Or.inl ⟨by rfl, ?_⟩) (by assumption) ?_
      rotate_left
      (focus (intro w hSw; (try dsimp only at hSw); go_simp; (try with_reducible rfl)))
      (try simp only [Act.put, List.getElem_toArray, List.getElem_cons_succ, List.getElem_cons_zero, List.setIfInBounds_toArray, List.set_cons_zero, List.set_cons_succ])
      refine wpAnyH_take (i := 12) (v := ?_) rfl (by kernel_rfl) (by kernel_rfl) (by kernel_rfl) (fun _ _ _ h => h) (Or.inl ⟨by rfl, ?_⟩) (by assumption) ?_
      rotate_left
      (focus (intro w hSw; (try dsimp only at hSw); go_simp; (try with_reducible rfl)))
      (try simp only [Act.put, List.getElem_toArray, List.getElem_cons_succ, List.getElem_cons_zero, List.setIfInBounds_toArray, List.set_cons_zero, List.set_cons_succ])
      refine wpAnyH_take (i := 13) (v := ?_) rfl (by kernel_rfl) (by kernel_rfl) (by kernel_rfl) (fun _ _ _ h => h) (Or.inl ⟨by rfl, ?_⟩) (by assumption) ?_
      rotate_left
      (focus (intro w hSw; (try dsimp only at hSw); go_simp; (try with_reducible rfl)))
      (try simp only [Act.put, List.getElem_toArray, List.getElem_cons_succ, List.getElem_cons_zero, List.setIfInBounds_toArray, List.set_cons_zero, List.set_cons_succ])
      refine wpAnyH_take (i := 14) (v := ?_) rfl (by kernel_rfl) (by kernel_rfl) (by kernel_rfl) (fun _ _ _ h => h) (Or.inl ⟨by rfl, ?_⟩) (by assumption) ?_
      rotate_left
      (focus (intro w hSw; (try dsimp only at hSw); go_simp; (try with_reducible rfl)))
      (try simp only [Act.put, List.getElem_toArray, List.getElem_cons_succ, List.getElem_cons_zero, List.setIfInBounds_toArray, List.set_cons_zero, List.set_cons_succ])
      refine wpAnyH_done (by kernel_rfl) ?_ _
      clear hHeld
      go_wp2_with fail
      go_ret
      exact ⟨rfl, (by (repeat' first | (with_reducible exact HB.out) | with_reducible refine setCells_below _ _ _ ?_ (by first | omega | (simp <;> omega)) | with_reducible refine Below.setCell ?_ (by show _ ≤ _; first | omega | (simp <;> omega) | simp) _ | with_reducible refine Below.alloc ?_ (by first | omega | (simp <;> omega)) _ | with_reducible apply Below.drew | with_reducible refine below_drewN ?_ _))⟩

set_option maxRecDepth 100000 in
theorem lifted_FnStokesAlike (os : Os) (started : os.Started) (H : Type) (enc : TypeId × Value → H) :
    ReturnsInHanded {} Try.checked os 6 .any (Rows.fnStokesAlikeSpec.pre6 enc Try.prog Try.f6 Rows.fnStokesAlikeRow.domain false) (Rows.fnStokesAlikeSpec.post enc Try.prog Try.f6 false true false false) := by
  refine returnsInHanded_of_change (C := Try.checked) Try.own started (by kernel_rfl) Try.func6
    (ChangeSpec.witness6 (enc := enc) (C := Try.checked) false ⟨#[], #[.slice none 0 0], []⟩ 8 (by kernel_rfl) (by kernel_rfl) (by kernel_rfl) (by kernel_rfl)) ?_
  intro W base args ds gs before hval0 hW hcnd _
  have hval : ∀ (j : Nat) t v, Try.f6.params[j]? = some t → args[j]? = some v → Value.okWide Try.prog W .any base t v := hval0
  have hW' := hW
  obtain ⟨p, q, hA0, hV, rfl, hfz, hnd⟩ := hW
  have hA : DataW.TrodAll enc Try.prog W 0 (fun _ => true) true Try.f6.params.toList args.toList ds p := hA0
  rw [Try.params6] at hA hval
  obtain ⟨v0, d0, rfl, rfl, h0⟩ := trodAll_one hA
  obtain ⟨rfl, rfl⟩ := trodVars_none hV
  have h0k := h0
  obtain ⟨fuel, hf⟩ := h0
  clear hA0 hval0
  simp only [List.append_nil] at hW'
  have hlt : ∀ x ∈ p, x.block < W.heap.size := fun x hx => by simpa using hW'.lt x hx
  obtain ⟨a0, len, cap, rfl⟩ := okWide_slice Try.underlying22 (hval 0 22 v0 rfl rfl)
  obtain ⟨hcap, HC⟩ := open_code hf hlt
  refine (walk_FnStokesAlike a0 len cap W hcap HC).mono fun e W' ⟨he, hb⟩ => ?_
  subst he
  refine ⟨_, rfl, _, _, _, [], p, [], hW', trodAll_mk1 (shut_bool Try.underlying4 _), trodAll_mk1 (Below.trod Try.laidOut (by kernel_rfl) (of_decide_eq_true (by kernel_rfl)) h0k hb (fun x hx => hlt x (by simp [hx]))), rfl, hb.frame _, fun h => by cases h⟩

/-- THE STATEMENT. -/
theorem holds_FnStokesAlike : Rows.FnStokesAlikeSaid :=
  OpenClaim.holds_of_wide 6 Try.f6 rfl rfl rfl rfl rfl rfl rfl ⟨rfl, rfl, rfl, rfl, rfl⟩ rfl rfl rfl rfl rfl (by kernel_rfl) Try.func6 (by kernel_rfl)
    (of_decide_eq_true (by kernel_rfl)) (by unfold Func.isWrapper; first | (rw [if_pos (by decide +kernel)]; kernel_rfl) | (rw [if_neg (by decide +kernel)]; exact ⟨rfl, rfl⟩))
    (fun os started H enc _ => lifted_FnStokesAlike os started H enc)
end Go.Proofs.Ytamdjgehmmogjaa
