/- Across there is nothing. -/
import Derived.Test.YtamdjgehmmogjaaDW
import Derived.Test.YtamdjgehmmogjaaDJ
import Derived.Test.YtamdjgehmmogjaaCX
set_option maxRecDepth 100000
namespace Go.Proofs.Ytamdjgehmmogjaa
open Go.ChangeShapes Go.WideShapes Go.ChangeAt Go.RowKit Pol

set_option maxRecDepth 100000 in
set_option maxHeartbeats 40000000 in
theorem walk_FnCross (a0 : Option Addr) (len cap : Nat) (w : World) (hcap : len ≤ cap) (HC : Code w.heap.size w a0 len) :
    Calls Try.prog 3 #[.slice a0 len cap] w fun e w' => e = .returned (.bool true) ∧ Below w.heap.size w w' := by
  by_cases hbig : 1048576 < len
  · have h1 : (1048576 : Int) < (len : Int) := by omega
    go_enter Try.func3, Try.ntmps3
    go_wp2
    go_ret
    exact ⟨rfl, Below.refl _ _⟩
  have h1 : ¬ (1048576 : Int) < (len : Int) := by omega
  go_enter Try.func3, Try.ntmps3
  go_wp2_with fail
  refine (DrawJonesCross_any a0 len cap _ hcap HC).mono ?_
  rintro e w1 ⟨a, rfl, hb⟩
  have HB := Lib.hid (show Below w.heap.size w w1 from hb)
  have hz1 := hb.size
  (try simp at hz1)
  clear hb
  cases hv : jv a
  · skip
    have HG : Hid (jCr a = (j2z, false)) := by show _ = _; unfold jCr; rw [hv]; rfl
    go_wp2_with (first | ((with_reducible refine wpList_load_mid ?kl111 26 ?kl11x ?kl112 (w1.heap.size) 0 ?kl113 [.int .i64 a.x.re, .int .i64 a.x.im, .int .i64 a.x.den, .int .i64 a.y.re, .int .i64 a.y.im, .int .i64 a.y.den] ?kl11d ?kl114 ?kl115 ?kl116 ?kl117 ?kl118); (case kl112 => rfl); (case kl111 => rfl); (case kl113 => rfl); (case kl114 => (exact (rangeAt_new _ _ _))); (case kl115 => exact Try.underlying26); (case kl116 => rfl); (case kl117 => kernel_rfl)))
    refine (icross_any a _).mono ?_
    rintro e w2 ho
    rw [HG.out] at ho
    obtain ⟨rfl, hb⟩ : e = .returned (.tuple #[.agg #[.int .i64 j2z.x.re, .int .i64 j2z.x.im, .int .i64 j2z.x.den, .int .i64 j2z.y.re, .int .i64 j2z.y.im, .int .i64 j2z.y.den], .bool false]) ∧ Below _ _ _ := ho.fn
    clear ho
    have HB := Lib.hid (show Below w.heap.size w w2 from HB.out.trans ((show Below _ _ _ from ((Below.refl _ _).alloc (by omega) _)).trans (hb.mono (by first | omega | (simp <;> omega)))))
    have Ha : Hid (w2.rangeAt w1.heap.size 0 [.int .i64 a.x.re, .int .i64 a.x.im, .int .i64 a.x.den, .int .i64 a.y.re, .int .i64 a.y.im, .int .i64 a.y.den]) := rangeAt_below (rangeAt_new _ _ _) hb (by first | omega | (simp; done) | (simp <;> omega))
    have hz2 := hb.size
    (try simp at hz2)
    clear hb
    have nA0 : w1.heap.size < w2.heap.size := by omega
    have nB0 : ¬ w1.heap.size = w2.heap.size := by omega
    have nC0 : ¬ w2.heap.size = w1.heap.size := by omega
    go_wp2_with (first | ((with_reducible refine wpList_load_mid ?kl121 26 ?kl12x ?kl122 (w1.heap.size) 0 ?kl123 [.int .i64 a.x.re, .int .i64 a.x.im, .int .i64 a.x.den, .int .i64 a.y.re, .int .i64 a.y.im, .int .i64 a.y.den] ?kl12d ?kl124 ?kl125 ?kl126 ?kl127 ?kl128); (case kl122 => rfl); (case kl121 => rfl); (case kl123 => rfl); (case kl124 => (exact (World.rangeAt_alloc Ha.out _))); (case kl125 => exact Try.underlying26); (case kl126 => rfl); (case kl127 => kernel_rfl)))
    refine (scross_any a _).mono ?_
    rintro e w3 ho
    rw [HG.out] at ho
    obtain ⟨rfl, hb⟩ : e = .returned (.tuple #[.agg #[.int .i64 j2z.x.re, .int .i64 j2z.x.im, .int .i64 j2z.x.den, .int .i64 j2z.y.re, .int .i64 j2z.y.im, .int .i64 j2z.y.den], .bool false]) ∧ Below _ _ _ := ho.fn
    clear ho
    have HB := Lib.hid (show Below w.heap.size w w3 from HB.out.trans ((show Below _ _ _ from ((Below.refl _ _).alloc (by omega) _)).trans (hb.mono (by first | omega | (simp <;> omega)))))
    have Ha : Hid (w3.rangeAt (w1.heap.size) 0 [.int .i64 a.x.re, .int .i64 a.x.im, .int .i64 a.x.den, .int .i64 a.y.re, .int .i64 a.y.im, .int .i64 a.y.den]) := rangeAt_below (World.rangeAt_alloc Ha.out _) hb (by first | omega | (simp; done) | (simp <;> omega))
    have Ho : Hid (w3.rangeAt w2.heap.size 0 [.int .i64 j2z.x.re, .int .i64 j2z.x.im, .int .i64 j2z.x.den, .int .i64 j2z.y.re, .int .i64 j2z.y.im, .int .i64 j2z.y.den]) := rangeAt_below (rangeAt_new _ _ _) hb (by first | omega | (simp; done) | (simp <;> omega))
    have hz3 := hb.size
    (try simp at hz3)
    clear hb
    have nA0 : w1.heap.size < w3.heap.size := by omega
    have nB0 : ¬ w1.heap.size = w3.heap.size := by omega
    have nC0 : ¬ w3.heap.size = w1.heap.size := by omega
    have nA1 : w2.heap.size < w3.heap.size := by omega
    have nB1 : ¬ w2.heap.size = w3.heap.size := by omega
    have nC1 : ¬ w3.heap.size = w2.heap.size := by omega
    have zo_0 : w3.cell? ⟨w2.heap.size, 0, none⟩ = some (.int .i64 j2z.x.re) := by have := Ho.out 0 _ rfl; rwa [Nat.zero_add] at this
    have zo_1 : w3.cell? ⟨w2.heap.size, 1, none⟩ = some (.int .i64 j2z.x.im) := by have := Ho.out 1 _ rfl; rwa [Nat.zero_add] at this
    have zo_2 : w3.cell? ⟨w2.heap.size, 2, none⟩ = some (.int .i64 j2z.x.den) := by have := Ho.out 2 _ rfl; rwa [Nat.zero_add] at this
    have zo_3 : w3.cell? ⟨w2.heap.size, 3, none⟩ = some (.int .i64 j2z.y.re) := by have := Ho.out 3 _ rfl; rwa [Nat.zero_add] at this
    have zo_4 : w3.cell? ⟨w2.heap.size, 4, none⟩ = some (.int .i64 j2z.y.im) := by have := Ho.out 4 _ rfl; rwa [Nat.zero_add] at this
    have zo_5 : w3.cell? ⟨w2.heap.size, 5, none⟩ = some (.int .i64 j2z.y.den) := by have := Ho.out 5 _ rfl; rwa [Nat.zero_add] at this
    go_wp2_with fail
    go_ret
    exact ⟨rfl, (by (repeat' first | (with_reducible exact HB.out) | with_reducible refine setCells_below _ _ _ ?_ (by first | omega | (simp <;> omega)) | with_reducible refine Below.setCell ?_ (by show _ ≤ _; first | omega | (simp <;> omega) | simp) _ | with_reducible refine Below.alloc ?_ (by first | omega | (simp <;> omega)) _ | with_reducible apply Below.drew))⟩
  · skip
    have hin := @jIn_cr a
    have hpw := jPow_cr a
    have h2 := jCr_2 a
    have HM : Hid (jTim a fM1 = (jNeg a, true)) := jTim_m1 hv
    have HG : Hid (jCr a = (jCrV a, true)) := by show _ = _; unfold jCr; rw [hv]; rfl
    have HB2 : Hid (jCr (jCrV a) = (jNeg a, true)) := by show _ = _; unfold jCr; rw [jCr_v hv, h2]; rfl
    obtain ⟨c, hc⟩ : ∃ c, c = jCrV a := ⟨_, rfl⟩
    obtain ⟨n, hn⟩ : ∃ n, n = jNeg a := ⟨_, rfl⟩
    rw [← hc] at hin hpw HG HB2
    rw [← hn] at HM HB2
    clear hc hn h2
    obtain ⟨U, q, hU⟩ : ∃ U q, jPow a = (U, q) := ⟨_, _, rfl⟩
    rw [hU] at hpw
    have HU := Lib.hid hU
    have HP := Lib.hid hpw
    clear hU hpw
    obtain ⟨X, p, hX⟩ : ∃ X p, jIn a c = (X, p) := ⟨_, _, rfl⟩
    have HX := Lib.hid hX
    have hX0 : p = true → X = f0 := fun hp => hin (X := X) (by rw [hX, hp])
    have HX0 := Lib.hid hX0
    clear hX hX0 hin
    go_wp2_with (first | ((with_reducible refine wpList_load_mid ?kl131 26 ?kl13x ?kl132 (w1.heap.size) 0 ?kl133 [.int .i64 a.x.re, .int .i64 a.x.im, .int .i64 a.x.den, .int .i64 a.y.re, .int .i64 a.y.im, .int .i64 a.y.den] ?kl13d ?kl134 ?kl135 ?kl136 ?kl137 ?kl138); (case kl132 => rfl); (case kl131 => rfl); (case kl133 => rfl); (case kl134 => (exact (rangeAt_new _ _ _))); (case kl135 => exact Try.underlying26); (case kl136 => rfl); (case kl137 => kernel_rfl)))
    refine (icross_any a _).mono ?_
    rintro e w2 ho
    rw [HG.out] at ho
    obtain ⟨rfl, hb⟩ : e = .returned (.tuple #[.agg #[.int .i64 c.x.re, .int .i64 c.x.im, .int .i64 c.x.den, .int .i64 c.y.re, .int .i64 c.y.im, .int .i64 c.y.den], .bool true]) ∧ Below _ _ _ := ho.fn
    clear ho
    have HB := Lib.hid (show Below w.heap.size w w2 from HB.out.trans ((show Below _ _ _ from ((Below.refl _ _).alloc (by omega) _)).trans (hb.mono (by first | omega | (simp <;> omega)))))
    have Ha : Hid (w2.rangeAt w1.heap.size 0 [.int .i64 a.x.re, .int .i64 a.x.im, .int .i64 a.x.den, .int .i64 a.y.re, .int .i64 a.y.im, .int .i64 a.y.den]) := rangeAt_below (rangeAt_new _ _ _) hb (by first | omega | (simp; done) | (simp <;> omega))
    have hz2 := hb.size
    (try simp at hz2)
    clear hb
    have nA0 : w1.heap.size < w2.heap.size := by omega
    have nB0 : ¬ w1.heap.size = w2.heap.size := by omega
    have nC0 : ¬ w2.heap.size = w1.heap.size := by omega
    go_wp2_with (first | ((with_reducible refine wpList_load_mid ?kl141 26 ?kl14x ?kl142 (w1.heap.size) 0 ?kl143 [.int .i64 a.x.re, .int .i64 a.x.im, .int .i64 a.x.den, .int .i64 a.y.re, .int .i64 a.y.im, .int .i64 a.y.den] ?kl14d ?kl144 ?kl145 ?kl146 ?kl147 ?kl148); (case kl142 => rfl); (case kl141 => rfl); (case kl143 => rfl); (case kl144 => (exact (World.rangeAt_alloc Ha.out _))); (case kl145 => exact Try.underlying26); (case kl146 => rfl); (case kl147 => kernel_rfl)))
    refine (scross_any a _).mono ?_
    rintro e w3 ho
    rw [HG.out] at ho
    obtain ⟨rfl, hb⟩ : e = .returned (.tuple #[.agg #[.int .i64 c.x.re, .int .i64 c.x.im, .int .i64 c.x.den, .int .i64 c.y.re, .int .i64 c.y.im, .int .i64 c.y.den], .bool true]) ∧ Below _ _ _ := ho.fn
    clear ho
    have HB := Lib.hid (show Below w.heap.size w w3 from HB.out.trans ((show Below _ _ _ from ((Below.refl _ _).alloc (by omega) _)).trans (hb.mono (by first | omega | (simp <;> omega)))))
    have Ha : Hid (w3.rangeAt (w1.heap.size) 0 [.int .i64 a.x.re, .int .i64 a.x.im, .int .i64 a.x.den, .int .i64 a.y.re, .int .i64 a.y.im, .int .i64 a.y.den]) := rangeAt_below (World.rangeAt_alloc Ha.out _) hb (by first | omega | (simp; done) | (simp <;> omega))
    have Ho : Hid (w3.rangeAt w2.heap.size 0 [.int .i64 c.x.re, .int .i64 c.x.im, .int .i64 c.x.den, .int .i64 c.y.re, .int .i64 c.y.im, .int .i64 c.y.den]) := rangeAt_below (rangeAt_new _ _ _) hb (by first | omega | (simp; done) | (simp <;> omega))
    have hz3 := hb.size
    (try simp at hz3)
    clear hb
    have nA0 : w1.heap.size < w3.heap.size := by omega
    have nB0 : ¬ w1.heap.size = w3.heap.size := by omega
    have nC0 : ¬ w3.heap.size = w1.heap.size := by omega
    have nA1 : w2.heap.size < w3.heap.size := by omega
    have nB1 : ¬ w2.heap.size = w3.heap.size := by omega
    have nC1 : ¬ w3.heap.size = w2.heap.size := by omega
    have zo_0 : w3.cell? ⟨w2.heap.size, 0, none⟩ = some (.int .i64 c.x.re) := by have := Ho.out 0 _ rfl; rwa [Nat.zero_add] at this
    have zo_1 : w3.cell? ⟨w2.heap.size, 1, none⟩ = some (.int .i64 c.x.im) := by have := Ho.out 1 _ rfl; rwa [Nat.zero_add] at this
    have zo_2 : w3.cell? ⟨w2.heap.size, 2, none⟩ = some (.int .i64 c.x.den) := by have := Ho.out 2 _ rfl; rwa [Nat.zero_add] at this
    have zo_3 : w3.cell? ⟨w2.heap.size, 3, none⟩ = some (.int .i64 c.y.re) := by have := Ho.out 3 _ rfl; rwa [Nat.zero_add] at this
    have zo_4 : w3.cell? ⟨w2.heap.size, 4, none⟩ = some (.int .i64 c.y.im) := by have := Ho.out 4 _ rfl; rwa [Nat.zero_add] at this
    have zo_5 : w3.cell? ⟨w2.heap.size, 5, none⟩ = some (.int .i64 c.y.den) := by have := Ho.out 5 _ rfl; rwa [Nat.zero_add] at this
    go_wp2_with (first | ((with_reducible refine wpList_load_mid ?kl151 26 ?kl15x ?kl152 (w1.heap.size) 0 ?kl153 [.int .i64 a.x.re, .int .i64 a.x.im, .int .i64 a.x.den, .int .i64 a.y.re, .int .i64 a.y.im, .int .i64 a.y.den] ?kl15d ?kl154 ?kl155 ?kl156 ?kl157 ?kl158); (case kl152 => rfl); (case kl151 => rfl); (case kl153 => rfl); (case kl154 => (exact (World.rangeAt_alloc Ha.out _))); (case kl155 => exact Try.underlying26); (case kl156 => rfl); (case kl157 => kernel_rfl)) | ((with_reducible refine wpList_load_mid ?kl161 26 ?kl16x ?kl162 (w2.heap.size) 0 ?kl163 [.int .i64 c.x.re, .int .i64 c.x.im, .int .i64 c.x.den, .int .i64 c.y.re, .int .i64 c.y.im, .int .i64 c.y.den] ?kl16d ?kl164 ?kl165 ?kl166 ?kl167 ?kl168); (case kl162 => rfl); (case kl161 => rfl); (case kl163 => rfl); (case kl164 => (exact (World.rangeAt_alloc Ho.out _))); (case kl165 => exact Try.underlying26); (case kl166 => rfl); (case kl167 => kernel_rfl)))
    refine (ijin a c _).mono ?_
    rintro e w4 ho
    rw [HX.out] at ho
    obtain ⟨rfl, hb⟩ : e = .returned (.tuple #[.agg #[.int .i64 X.re, .int .i64 X.im, .int .i64 X.den], .bool p]) ∧ Below _ _ _ := ho.fn
    clear ho
    have HB := Lib.hid (show Below w.heap.size w w4 from HB.out.trans ((show Below _ _ _ from ((Below.refl _ _).alloc (by omega) _)).trans (hb.mono (by first | omega | (simp <;> omega)))))
    have Ha : Hid (w4.rangeAt (w1.heap.size) 0 [.int .i64 a.x.re, .int .i64 a.x.im, .int .i64 a.x.den, .int .i64 a.y.re, .int .i64 a.y.im, .int .i64 a.y.den]) := rangeAt_below (World.rangeAt_alloc Ha.out _) hb (by first | omega | (simp; done) | (simp <;> omega))
    have Ho : Hid (w4.rangeAt (w2.heap.size) 0 [.int .i64 c.x.re, .int .i64 c.x.im, .int .i64 c.x.den, .int .i64 c.y.re, .int .i64 c.y.im, .int .i64 c.y.den]) := rangeAt_below (World.rangeAt_alloc Ho.out _) hb (by first | omega | (simp; done) | (simp <;> omega))
    have Hq : Hid (w4.rangeAt w3.heap.size 0 [.int .i64 c.x.re, .int .i64 c.x.im, .int .i64 c.x.den, .int .i64 c.y.re, .int .i64 c.y.im, .int .i64 c.y.den]) := rangeAt_below (rangeAt_new _ _ _) hb (by first | omega | (simp; done) | (simp <;> omega))
    have hz4 := hb.size
    (try simp at hz4)
    clear hb
    have nA0 : w1.heap.size < w4.heap.size := by omega
    have nB0 : ¬ w1.heap.size = w4.heap.size := by omega
    have nC0 : ¬ w4.heap.size = w1.heap.size := by omega
    have nA1 : w2.heap.size < w4.heap.size := by omega
    have nB1 : ¬ w2.heap.size = w4.heap.size := by omega
    have nC1 : ¬ w4.heap.size = w2.heap.size := by omega
    have nA2 : w3.heap.size < w4.heap.size := by omega
    have nB2 : ¬ w3.heap.size = w4.heap.size := by omega
    have nC2 : ¬ w4.heap.size = w3.heap.size := by omega
    go_wp2_with (first | ((with_reducible refine wpList_load_mid ?kl171 26 ?kl17x ?kl172 (w1.heap.size) 0 ?kl173 [.int .i64 a.x.re, .int .i64 a.x.im, .int .i64 a.x.den, .int .i64 a.y.re, .int .i64 a.y.im, .int .i64 a.y.den] ?kl17d ?kl174 ?kl175 ?kl176 ?kl177 ?kl178); (case kl172 => rfl); (case kl171 => rfl); (case kl173 => rfl); (case kl174 => (exact (World.rangeAt_alloc Ha.out _))); (case kl175 => exact Try.underlying26); (case kl176 => rfl); (case kl177 => kernel_rfl)))
    refine (ijpow a _).mono ?_
    rintro e w5 ho
    rw [HU.out] at ho
    obtain ⟨rfl, hb⟩ : e = .returned (.tuple #[.agg #[.int .i64 U.re, .int .i64 U.im, .int .i64 U.den], .bool q]) ∧ Below _ _ _ := ho.fn
    clear ho
    have HB := Lib.hid (show Below w.heap.size w w5 from HB.out.trans ((show Below _ _ _ from ((Below.refl _ _).alloc (by omega) _)).trans (hb.mono (by first | omega | (simp <;> omega)))))
    have Ha : Hid (w5.rangeAt (w1.heap.size) 0 [.int .i64 a.x.re, .int .i64 a.x.im, .int .i64 a.x.den, .int .i64 a.y.re, .int .i64 a.y.im, .int .i64 a.y.den]) := rangeAt_below (World.rangeAt_alloc Ha.out _) hb (by first | omega | (simp; done) | (simp <;> omega))
    have Ho : Hid (w5.rangeAt (w2.heap.size) 0 [.int .i64 c.x.re, .int .i64 c.x.im, .int .i64 c.x.den, .int .i64 c.y.re, .int .i64 c.y.im, .int .i64 c.y.den]) := rangeAt_below (World.rangeAt_alloc Ho.out _) hb (by first | omega | (simp; done) | (simp <;> omega))
    have Hq : Hid (w5.rangeAt (w3.heap.size) 0 [.int .i64 c.x.re, .int .i64 c.x.im, .int .i64 c.x.den, .int .i64 c.y.re, .int .i64 c.y.im, .int .i64 c.y.den]) := rangeAt_below (World.rangeAt_alloc Hq.out _) hb (by first | omega | (simp; done) | (simp <;> omega))
    have Hx : Hid (w5.rangeAt w4.heap.size 0 [.int .i64 X.re, .int .i64 X.im, .int .i64 X.den]) := rangeAt_below (rangeAt_new _ _ _) hb (by first | omega | (simp; done) | (simp <;> omega))
    have hz5 := hb.size
    (try simp at hz5)
    clear hb
    have nA0 : w1.heap.size < w5.heap.size := by omega
    have nB0 : ¬ w1.heap.size = w5.heap.size := by omega
    have nC0 : ¬ w5.heap.size = w1.heap.size := by omega
    have nA1 : w2.heap.size < w5.heap.size := by omega
    have nB1 : ¬ w2.heap.size = w5.heap.size := by omega
    have nC1 : ¬ w5.heap.size = w2.heap.size := by omega
    have nA2 : w3.heap.size < w5.heap.size := by omega
    have nB2 : ¬ w3.heap.size = w5.heap.size := by omega
    have nC2 : ¬ w5.heap.size = w3.heap.size := by omega
    have nA3 : w4.heap.size < w5.heap.size := by omega
    have nB3 : ¬ w4.heap.size = w5.heap.size := by omega
    have nC3 : ¬ w5.heap.size = w4.heap.size := by omega
    go_wp2_with (first | ((with_reducible refine wpList_load_mid ?kl181 26 ?kl18x ?kl182 (w2.heap.size) 0 ?kl183 [.int .i64 c.x.re, .int .i64 c.x.im, .int .i64 c.x.den, .int .i64 c.y.re, .int .i64 c.y.im, .int .i64 c.y.den] ?kl18d ?kl184 ?kl185 ?kl186 ?kl187 ?kl188); (case kl182 => rfl); (case kl181 => rfl); (case kl183 => rfl); (case kl184 => (exact (World.rangeAt_alloc Ho.out _))); (case kl185 => exact Try.underlying26); (case kl186 => rfl); (case kl187 => kernel_rfl)))
    refine (ijpow c _).mono ?_
    rintro e w6 ho
    rw [HP.out] at ho
    obtain ⟨rfl, hb⟩ : e = .returned (.tuple #[.agg #[.int .i64 U.re, .int .i64 U.im, .int .i64 U.den], .bool q]) ∧ Below _ _ _ := ho.fn
    clear ho
    have HB := Lib.hid (show Below w.heap.size w w6 from HB.out.trans ((show Below _ _ _ from ((Below.refl _ _).alloc (by omega) _)).trans (hb.mono (by first | omega | (simp <;> omega)))))
    have Ha : Hid (w6.rangeAt (w1.heap.size) 0 [.int .i64 a.x.re, .int .i64 a.x.im, .int .i64 a.x.den, .int .i64 a.y.re, .int .i64 a.y.im, .int .i64 a.y.den]) := rangeAt_below (World.rangeAt_alloc Ha.out _) hb (by first | omega | (simp; done) | (simp <;> omega))
    have Ho : Hid (w6.rangeAt (w2.heap.size) 0 [.int .i64 c.x.re, .int .i64 c.x.im, .int .i64 c.x.den, .int .i64 c.y.re, .int .i64 c.y.im, .int .i64 c.y.den]) := rangeAt_below (World.rangeAt_alloc Ho.out _) hb (by first | omega | (simp; done) | (simp <;> omega))
    have Hq : Hid (w6.rangeAt (w3.heap.size) 0 [.int .i64 c.x.re, .int .i64 c.x.im, .int .i64 c.x.den, .int .i64 c.y.re, .int .i64 c.y.im, .int .i64 c.y.den]) := rangeAt_below (World.rangeAt_alloc Hq.out _) hb (by first | omega | (simp; done) | (simp <;> omega))
    have Hx : Hid (w6.rangeAt (w4.heap.size) 0 [.int .i64 X.re, .int .i64 X.im, .int .i64 X.den]) := rangeAt_below (World.rangeAt_alloc Hx.out _) hb (by first | omega | (simp; done) | (simp <;> omega))
    have Hu : Hid (w6.rangeAt w5.heap.size 0 [.int .i64 U.re, .int .i64 U.im, .int .i64 U.den]) := rangeAt_below (rangeAt_new _ _ _) hb (by first | omega | (simp; done) | (simp <;> omega))
    have hz6 := hb.size
    (try simp at hz6)
    clear hb
    have nA0 : w1.heap.size < w6.heap.size := by omega
    have nB0 : ¬ w1.heap.size = w6.heap.size := by omega
    have nC0 : ¬ w6.heap.size = w1.heap.size := by omega
    have nA1 : w2.heap.size < w6.heap.size := by omega
    have nB1 : ¬ w2.heap.size = w6.heap.size := by omega
    have nC1 : ¬ w6.heap.size = w2.heap.size := by omega
    have nA2 : w3.heap.size < w6.heap.size := by omega
    have nB2 : ¬ w3.heap.size = w6.heap.size := by omega
    have nC2 : ¬ w6.heap.size = w3.heap.size := by omega
    have nA3 : w4.heap.size < w6.heap.size := by omega
    have nB3 : ¬ w4.heap.size = w6.heap.size := by omega
    have nC3 : ¬ w6.heap.size = w4.heap.size := by omega
    have nA4 : w5.heap.size < w6.heap.size := by omega
    have nB4 : ¬ w5.heap.size = w6.heap.size := by omega
    have nC4 : ¬ w6.heap.size = w5.heap.size := by omega
    go_wp2_with (first | ((with_reducible refine wpList_load_mid ?kl191 26 ?kl19x ?kl192 (w2.heap.size) 0 ?kl193 [.int .i64 c.x.re, .int .i64 c.x.im, .int .i64 c.x.den, .int .i64 c.y.re, .int .i64 c.y.im, .int .i64 c.y.den] ?kl19d ?kl194 ?kl195 ?kl196 ?kl197 ?kl198); (case kl192 => rfl); (case kl191 => rfl); (case kl193 => rfl); (case kl194 => (exact (World.rangeAt_alloc Ho.out _))); (case kl195 => exact Try.underlying26); (case kl196 => rfl); (case kl197 => kernel_rfl)))
    refine (icross_any c _).mono ?_
    rintro e w7 ho
    rw [HB2.out] at ho
    obtain ⟨rfl, hb⟩ : e = .returned (.tuple #[.agg #[.int .i64 n.x.re, .int .i64 n.x.im, .int .i64 n.x.den, .int .i64 n.y.re, .int .i64 n.y.im, .int .i64 n.y.den], .bool true]) ∧ Below _ _ _ := ho.fn
    clear ho
    have HB := Lib.hid (show Below w.heap.size w w7 from HB.out.trans ((show Below _ _ _ from ((Below.refl _ _).alloc (by omega) _)).trans (hb.mono (by first | omega | (simp <;> omega)))))
    have Ha : Hid (w7.rangeAt (w1.heap.size) 0 [.int .i64 a.x.re, .int .i64 a.x.im, .int .i64 a.x.den, .int .i64 a.y.re, .int .i64 a.y.im, .int .i64 a.y.den]) := rangeAt_below (World.rangeAt_alloc Ha.out _) hb (by first | omega | (simp; done) | (simp <;> omega))
    have Ho : Hid (w7.rangeAt (w2.heap.size) 0 [.int .i64 c.x.re, .int .i64 c.x.im, .int .i64 c.x.den, .int .i64 c.y.re, .int .i64 c.y.im, .int .i64 c.y.den]) := rangeAt_below (World.rangeAt_alloc Ho.out _) hb (by first | omega | (simp; done) | (simp <;> omega))
    have Hq : Hid (w7.rangeAt (w3.heap.size) 0 [.int .i64 c.x.re, .int .i64 c.x.im, .int .i64 c.x.den, .int .i64 c.y.re, .int .i64 c.y.im, .int .i64 c.y.den]) := rangeAt_below (World.rangeAt_alloc Hq.out _) hb (by first | omega | (simp; done) | (simp <;> omega))
    have Hx : Hid (w7.rangeAt (w4.heap.size) 0 [.int .i64 X.re, .int .i64 X.im, .int .i64 X.den]) := rangeAt_below (World.rangeAt_alloc Hx.out _) hb (by first | omega | (simp; done) | (simp <;> omega))
    have Hu : Hid (w7.rangeAt (w5.heap.size) 0 [.int .i64 U.re, .int .i64 U.im, .int .i64 U.den]) := rangeAt_below (World.rangeAt_alloc Hu.out _) hb (by first | omega | (simp; done) | (simp <;> omega))
    have Hv : Hid (w7.rangeAt w6.heap.size 0 [.int .i64 U.re, .int .i64 U.im, .int .i64 U.den]) := rangeAt_below (rangeAt_new _ _ _) hb (by first | omega | (simp; done) | (simp <;> omega))
    have hz7 := hb.size
    (try simp at hz7)
    clear hb
    have nA0 : w1.heap.size < w7.heap.size := by omega
    have nB0 : ¬ w1.heap.size = w7.heap.size := by omega
    have nC0 : ¬ w7.heap.size = w1.heap.size := by omega
    have nA1 : w2.heap.size < w7.heap.size := by omega
    have nB1 : ¬ w2.heap.size = w7.heap.size := by omega
    have nC1 : ¬ w7.heap.size = w2.heap.size := by omega
    have nA2 : w3.heap.size < w7.heap.size := by omega
    have nB2 : ¬ w3.heap.size = w7.heap.size := by omega
    have nC2 : ¬ w7.heap.size = w3.heap.size := by omega
    have nA3 : w4.heap.size < w7.heap.size := by omega
    have nB3 : ¬ w4.heap.size = w7.heap.size := by omega
    have nC3 : ¬ w7.heap.size = w4.heap.size := by omega
    have nA4 : w5.heap.size < w7.heap.size := by omega
    have nB4 : ¬ w5.heap.size = w7.heap.size := by omega
    have nC4 : ¬ w7.heap.size = w5.heap.size := by omega
    have nA5 : w6.heap.size < w7.heap.size := by omega
    have nB5 : ¬ w6.heap.size = w7.heap.size := by omega
    have nC5 : ¬ w7.heap.size = w6.heap.size := by omega
    go_wp2_with (first | ((with_reducible refine wpList_load_mid ?kl201 26 ?kl20x ?kl202 (w1.heap.size) 0 ?kl203 [.int .i64 a.x.re, .int .i64 a.x.im, .int .i64 a.x.den, .int .i64 a.y.re, .int .i64 a.y.im, .int .i64 a.y.den] ?kl20d ?kl204 ?kl205 ?kl206 ?kl207 ?kl208); (case kl202 => rfl); (case kl201 => rfl); (case kl203 => rfl); (case kl204 => (exact (World.rangeAt_alloc Ha.out _))); (case kl205 => exact Try.underlying26); (case kl206 => rfl); (case kl207 => kernel_rfl)))
    refine (ijtim a fM1 _).mono ?_
    rintro e w8 ho
    rw [HM.out] at ho
    obtain ⟨rfl, hb⟩ : e = .returned (.tuple #[.agg #[.int .i64 n.x.re, .int .i64 n.x.im, .int .i64 n.x.den, .int .i64 n.y.re, .int .i64 n.y.im, .int .i64 n.y.den], .bool true]) ∧ Below _ _ _ := ho.fn
    clear ho
    have HB := Lib.hid (show Below w.heap.size w w8 from HB.out.trans ((show Below _ _ _ from ((Below.refl _ _).alloc (by omega) _)).trans (hb.mono (by first | omega | (simp <;> omega)))))
    have Ha : Hid (w8.rangeAt (w1.heap.size) 0 [.int .i64 a.x.re, .int .i64 a.x.im, .int .i64 a.x.den, .int .i64 a.y.re, .int .i64 a.y.im, .int .i64 a.y.den]) := rangeAt_below (World.rangeAt_alloc Ha.out _) hb (by first | omega | (simp; done) | (simp <;> omega))
    have Ho : Hid (w8.rangeAt (w2.heap.size) 0 [.int .i64 c.x.re, .int .i64 c.x.im, .int .i64 c.x.den, .int .i64 c.y.re, .int .i64 c.y.im, .int .i64 c.y.den]) := rangeAt_below (World.rangeAt_alloc Ho.out _) hb (by first | omega | (simp; done) | (simp <;> omega))
    have Hq : Hid (w8.rangeAt (w3.heap.size) 0 [.int .i64 c.x.re, .int .i64 c.x.im, .int .i64 c.x.den, .int .i64 c.y.re, .int .i64 c.y.im, .int .i64 c.y.den]) := rangeAt_below (World.rangeAt_alloc Hq.out _) hb (by first | omega | (simp; done) | (simp <;> omega))
    have Hx : Hid (w8.rangeAt (w4.heap.size) 0 [.int .i64 X.re, .int .i64 X.im, .int .i64 X.den]) := rangeAt_below (World.rangeAt_alloc Hx.out _) hb (by first | omega | (simp; done) | (simp <;> omega))
    have Hu : Hid (w8.rangeAt (w5.heap.size) 0 [.int .i64 U.re, .int .i64 U.im, .int .i64 U.den]) := rangeAt_below (World.rangeAt_alloc Hu.out _) hb (by first | omega | (simp; done) | (simp <;> omega))
    have Hv : Hid (w8.rangeAt (w6.heap.size) 0 [.int .i64 U.re, .int .i64 U.im, .int .i64 U.den]) := rangeAt_below (World.rangeAt_alloc Hv.out _) hb (by first | omega | (simp; done) | (simp <;> omega))
    have Hb : Hid (w8.rangeAt w7.heap.size 0 [.int .i64 n.x.re, .int .i64 n.x.im, .int .i64 n.x.den, .int .i64 n.y.re, .int .i64 n.y.im, .int .i64 n.y.den]) := rangeAt_below (rangeAt_new _ _ _) hb (by first | omega | (simp; done) | (simp <;> omega))
    have hz8 := hb.size
    (try simp at hz8)
    clear hb
    have nA0 : w1.heap.size < w8.heap.size := by omega
    have nB0 : ¬ w1.heap.size = w8.heap.size := by omega
    have nC0 : ¬ w8.heap.size = w1.heap.size := by omega
    have nA1 : w2.heap.size < w8.heap.size := by omega
    have nB1 : ¬ w2.heap.size = w8.heap.size := by omega
    have nC1 : ¬ w8.heap.size = w2.heap.size := by omega
    have nA2 : w3.heap.size < w8.heap.size := by omega
    have nB2 : ¬ w3.heap.size = w8.heap.size := by omega
    have nC2 : ¬ w8.heap.size = w3.heap.size := by omega
    have nA3 : w4.heap.size < w8.heap.size := by omega
    have nB3 : ¬ w4.heap.size = w8.heap.size := by omega
    have nC3 : ¬ w8.heap.size = w4.heap.size := by omega
    have nA4 : w5.heap.size < w8.heap.size := by omega
    have nB4 : ¬ w5.heap.size = w8.heap.size := by omega
    have nC4 : ¬ w8.heap.size = w5.heap.size := by omega
    have nA5 : w6.heap.size < w8.heap.size := by omega
    have nB5 : ¬ w6.heap.size = w8.heap.size := by omega
    have nC5 : ¬ w8.heap.size = w6.heap.size := by omega
    have nA6 : w7.heap.size < w8.heap.size := by omega
    have nB6 : ¬ w7.heap.size = w8.heap.size := by omega
    have nC6 : ¬ w8.heap.size = w7.heap.size := by omega
    have zx_0 : w8.cell? ⟨w4.heap.size, 0, none⟩ = some (.int .i64 X.re) := by have := Hx.out 0 _ rfl; rwa [Nat.zero_add] at this
    have zx_1 : w8.cell? ⟨w4.heap.size, 1, none⟩ = some (.int .i64 X.im) := by have := Hx.out 1 _ rfl; rwa [Nat.zero_add] at this
    have zx_2 : w8.cell? ⟨w4.heap.size, 2, none⟩ = some (.int .i64 X.den) := by have := Hx.out 2 _ rfl; rwa [Nat.zero_add] at this
    have zu_0 : w8.cell? ⟨w5.heap.size, 0, none⟩ = some (.int .i64 U.re) := by have := Hu.out 0 _ rfl; rwa [Nat.zero_add] at this
    have zu_1 : w8.cell? ⟨w5.heap.size, 1, none⟩ = some (.int .i64 U.im) := by have := Hu.out 1 _ rfl; rwa [Nat.zero_add] at this
    have zu_2 : w8.cell? ⟨w5.heap.size, 2, none⟩ = some (.int .i64 U.den) := by have := Hu.out 2 _ rfl; rwa [Nat.zero_add] at this
    have zv_0 : w8.cell? ⟨w6.heap.size, 0, none⟩ = some (.int .i64 U.re) := by have := Hv.out 0 _ rfl; rwa [Nat.zero_add] at this
    have zv_1 : w8.cell? ⟨w6.heap.size, 1, none⟩ = some (.int .i64 U.im) := by have := Hv.out 1 _ rfl; rwa [Nat.zero_add] at this
    have zv_2 : w8.cell? ⟨w6.heap.size, 2, none⟩ = some (.int .i64 U.den) := by have := Hv.out 2 _ rfl; rwa [Nat.zero_add] at this
    have zb_0 : w8.cell? ⟨w7.heap.size, 0, none⟩ = some (.int .i64 n.x.re) := by have := Hb.out 0 _ rfl; rwa [Nat.zero_add] at this
    have zb_1 : w8.cell? ⟨w7.heap.size, 1, none⟩ = some (.int .i64 n.x.im) := by have := Hb.out 1 _ rfl; rwa [Nat.zero_add] at this
    have zb_2 : w8.cell? ⟨w7.heap.size, 2, none⟩ = some (.int .i64 n.x.den) := by have := Hb.out 2 _ rfl; rwa [Nat.zero_add] at this
    have zb_3 : w8.cell? ⟨w7.heap.size, 3, none⟩ = some (.int .i64 n.y.re) := by have := Hb.out 3 _ rfl; rwa [Nat.zero_add] at this
    have zb_4 : w8.cell? ⟨w7.heap.size, 4, none⟩ = some (.int .i64 n.y.im) := by have := Hb.out 4 _ rfl; rwa [Nat.zero_add] at this
    have zb_5 : w8.cell? ⟨w7.heap.size, 5, none⟩ = some (.int .i64 n.y.den) := by have := Hb.out 5 _ rfl; rwa [Nat.zero_add] at this
    cases p
    · cases q
      · skip
        go_wp2_with fail
        go_ret
        exact ⟨rfl, (by (repeat' first | (with_reducible exact HB.out) | with_reducible refine setCells_below _ _ _ ?_ (by first | omega | (simp <;> omega)) | with_reducible refine Below.setCell ?_ (by show _ ≤ _; first | omega | (simp <;> omega) | simp) _ | with_reducible refine Below.alloc ?_ (by first | omega | (simp <;> omega)) _ | with_reducible apply Below.drew))⟩
      · skip
        go_wp2_with fail
        go_ret
        exact ⟨rfl, (by (repeat' first | (with_reducible exact HB.out) | with_reducible refine setCells_below _ _ _ ?_ (by first | omega | (simp <;> omega)) | with_reducible refine Below.setCell ?_ (by show _ ≤ _; first | omega | (simp <;> omega) | simp) _ | with_reducible refine Below.alloc ?_ (by first | omega | (simp <;> omega)) _ | with_reducible apply Below.drew))⟩
    · obtain rfl : X = f0 := HX0.out rfl
      cases q
      · skip
        go_wp2_with fail
        go_ret
        exact ⟨rfl, (by (repeat' first | (with_reducible exact HB.out) | with_reducible refine setCells_below _ _ _ ?_ (by first | omega | (simp <;> omega)) | with_reducible refine Below.setCell ?_ (by show _ ≤ _; first | omega | (simp <;> omega) | simp) _ | with_reducible refine Below.alloc ?_ (by first | omega | (simp <;> omega)) _ | with_reducible apply Below.drew))⟩
      · skip
        go_wp2_with fail
        go_ret
        exact ⟨rfl, (by (repeat' first | (with_reducible exact HB.out) | with_reducible refine setCells_below _ _ _ ?_ (by first | omega | (simp <;> omega)) | with_reducible refine Below.setCell ?_ (by show _ ≤ _; first | omega | (simp <;> omega) | simp) _ | with_reducible refine Below.alloc ?_ (by first | omega | (simp <;> omega)) _ | with_reducible apply Below.drew))⟩

set_option maxRecDepth 100000 in
theorem lifted_FnCross (os : Os) (started : os.Started) (H : Type) (enc : TypeId × Value → H) :
    ReturnsInHanded {} Try.checked os 3 .any (Rows.fnCrossSpec.pre6 enc Try.prog Try.f3 Rows.fnCrossRow.domain false) (Rows.fnCrossSpec.post enc Try.prog Try.f3 false true false false) := by
  refine returnsInHanded_of_change (C := Try.checked) Try.own started (by kernel_rfl) Try.func3
    (ChangeSpec.witness6 (enc := enc) (C := Try.checked) false ⟨#[], #[.slice none 0 0], []⟩ 8 (by kernel_rfl) (by kernel_rfl) (by kernel_rfl) (by kernel_rfl)) ?_
  intro W base args ds gs before hval0 hW hcnd _
  have hval : ∀ (j : Nat) t v, Try.f3.params[j]? = some t → args[j]? = some v → Value.okWide Try.prog W .any base t v := hval0
  have hW' := hW
  obtain ⟨p, q, hA0, hV, rfl, hfz, hnd⟩ := hW
  have hA : DataW.TrodAll enc Try.prog W 0 (fun _ => true) true Try.f3.params.toList args.toList ds p := hA0
  rw [Try.params3] at hA hval
  obtain ⟨v0, d0, rfl, rfl, h0⟩ := trodAll_one hA
  obtain ⟨rfl, rfl⟩ := trodVars_none hV
  have h0k := h0
  obtain ⟨fuel, hf⟩ := h0
  clear hA0 hval0
  simp only [List.append_nil] at hW'
  have hlt : ∀ x ∈ p, x.block < W.heap.size := fun x hx => by simpa using hW'.lt x hx
  obtain ⟨a0, len, cap, rfl⟩ := okWide_slice Try.underlying22 (hval 0 22 v0 rfl rfl)
  obtain ⟨hcap, HC⟩ := open_code hf hlt
  refine (walk_FnCross a0 len cap W hcap HC).mono fun e W' ⟨he, hb⟩ => ?_
  subst he
  refine ⟨_, rfl, _, _, _, [], p, [], hW', trodAll_mk1 (shut_bool Try.underlying4 _), trodAll_mk1 (Below.trod Try.laidOut (by kernel_rfl) (of_decide_eq_true (by kernel_rfl)) h0k hb (fun x hx => hlt x (by simp [hx]))), rfl, hb.frame _, fun h => by cases h⟩

/-- THE STATEMENT. -/
theorem holds_FnCross : Rows.FnCrossSaid :=
  OpenClaim.holds_of_wide 3 Try.f3 rfl rfl rfl rfl rfl rfl rfl ⟨rfl, rfl, rfl, rfl, rfl⟩ rfl rfl rfl rfl rfl (by kernel_rfl) Try.func3 (by kernel_rfl)
    (of_decide_eq_true (by kernel_rfl)) (by unfold Func.isWrapper; first | (rw [if_pos (by decide +kernel)]; kernel_rfl) | (rw [if_neg (by decide +kernel)]; exact ⟨rfl, rfl⟩))
    (fun os started H enc _ => lifted_FnCross os started H enc)
end Go.Proofs.Ytamdjgehmmogjaa
