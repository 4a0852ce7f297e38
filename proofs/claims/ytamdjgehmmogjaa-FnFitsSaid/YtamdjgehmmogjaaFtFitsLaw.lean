/- What fits across fits. -/
import Derived.Test.YtamdjgehmmogjaaFtG4
import Derived.Test.YtamdjgehmmogjaaFtFC
import Derived.Test.YtamdjgehmmogjaaFtG6
set_option maxRecDepth 100000
namespace Go.Proofs.Ytamdjgehmmogjaa
open Go.ChangeShapes Go.WideShapes Go.ChangeAt Go.RowKit Pol
set_option maxRecDepth 100000 in
set_option maxHeartbeats 40000000 in
theorem walk_FnFits (a0 : Option Addr) (len cap : Nat) (w : World) (hcap : len ≤ cap) (HC : Code w.heap.size w a0 len) :
    Calls Try.prog 5 #[.slice a0 len cap] w fun e w' => e = .returned (.bool true) ∧ Below w.heap.size w w' := by
  by_cases hbig : 1048576 < len
  · have h1 : (1048576 : Int) < (len : Int) := by omega
    go_enter Try.func5, Try.ntmps5
    go_wp2
    go_ret
    exact ⟨rfl, Below.refl _ _⟩
  have h1 : ¬ (1048576 : Int) < (len : Int) := by omega
  have HB : Hid (Below w.heap.size w w) := Below.refl _ _
  go_enter Try.func5, Try.ntmps5
  go_wp2_with fail
  refine (DrawJonesFits_any a0 len cap _ hcap HC).mono ?_
  rintro e w1 ⟨a, rfl, hb⟩
  have HB := Lib.hid (show Below w.heap.size w w1 from HB.out.trans ((show Below _ _ _ from (Below.refl _ _)).trans (hb.mono (by first | omega | (simp <;> omega)))))
  have hz1 := hb.size
  (try simp at hz1)
  clear hb
  cases hf : jFit a
  · skip
    go_wp2_with (first | ((with_reducible refine wpList_load_mid ?kl171 26 ?kl17x ?kl172 (w1.heap.size) 0 ?kl173 [.int .i64 a.x.re, .int .i64 a.x.im, .int .i64 a.x.den, .int .i64 a.y.re, .int .i64 a.y.im, .int .i64 a.y.den] ?kl17d ?kl174 ?kl175 ?kl176 ?kl177 ?kl178); (case kl172 => rfl); (case kl171 => rfl); (case kl173 => rfl); (case kl174 => (exact (rangeAt_new _ _ _))); (case kl175 => exact Try.underlying26); (case kl176 => rfl); (case kl177 => kernel_rfl)))
    refine (ifit_any a _).mono ?_
    rintro e w2 ho
    rw [hf] at ho
    obtain ⟨rfl, hb⟩ : e = .returned (.bool false) ∧ Below _ _ _ := (id ho)
    clear ho
    have HB := Lib.hid (show Below w.heap.size w w2 from HB.out.trans ((show Below _ _ _ from ((Below.refl _ _).alloc (by first | omega | (simp; done) | (simp <;> omega)) _)).trans (hb.mono (by first | omega | (simp <;> omega)))))
    have Ha : Hid (w2.rangeAt (w1.heap.size) 0 [.int .i64 a.x.re, .int .i64 a.x.im, .int .i64 a.x.den, .int .i64 a.y.re, .int .i64 a.y.im, .int .i64 a.y.den]) := rangeAt_below (rangeAt_new _ _ _) hb (by first | omega | (simp; done) | (simp <;> omega))
    have hz2 := hb.size
    (try simp at hz2)
    clear hb
    have nA0 : w1.heap.size < w2.heap.size := by omega
    have nB0 : ¬ w1.heap.size = w2.heap.size := by omega
    have nC0 : ¬ w2.heap.size = w1.heap.size := by omega
    go_wp2_with (first | ((with_reducible refine wpList_load_mid ?kl181 26 ?kl18x ?kl182 (w1.heap.size) 0 ?kl183 [.int .i64 a.x.re, .int .i64 a.x.im, .int .i64 a.x.den, .int .i64 a.y.re, .int .i64 a.y.im, .int .i64 a.y.den] ?kl18d ?kl184 ?kl185 ?kl186 ?kl187 ?kl188); (case kl182 => rfl); (case kl181 => rfl); (case kl183 => rfl); (case kl184 => (exact Ha.out)); (case kl185 => exact Try.underlying26); (case kl186 => rfl); (case kl187 => kernel_rfl)))
    refine (sfit_any a _).mono ?_
    rintro e w3 ho
    rw [hf] at ho
    obtain ⟨rfl, hb⟩ : e = .returned (.bool false) ∧ Below _ _ _ := (id ho)
    clear ho
    have HB := Lib.hid (show Below w.heap.size w w3 from HB.out.trans ((show Below _ _ _ from (Below.refl _ _)).trans (hb.mono (by first | omega | (simp <;> omega)))))
    have Ha : Hid (w3.rangeAt (w1.heap.size) 0 [.int .i64 a.x.re, .int .i64 a.x.im, .int .i64 a.x.den, .int .i64 a.y.re, .int .i64 a.y.im, .int .i64 a.y.den]) := rangeAt_below Ha.out hb (by first | omega | (simp; done) | (simp <;> omega))
    have hz3 := hb.size
    (try simp at hz3)
    clear hb
    have nA0 : w1.heap.size < w3.heap.size := by omega
    have nB0 : ¬ w1.heap.size = w3.heap.size := by omega
    have nC0 : ¬ w3.heap.size = w1.heap.size := by omega
    go_wp2_with fail
    go_ret
    exact ⟨rfl, (by (repeat' first | (with_reducible exact HB.out) | with_reducible refine setCells_below _ _ _ ?_ (by first | omega | (simp <;> omega)) | with_reducible refine Below.setCell ?_ (by show _ ≤ _; first | omega | (simp <;> omega) | simp) _ | with_reducible refine Below.alloc ?_ (by first | omega | (simp <;> omega)) _ | with_reducible apply Below.drew | with_reducible refine below_drewN ?_ _))⟩
  · skip
    obtain ⟨hv, hx, hy⟩ := jFit_parts hf
    obtain ⟨h1, h2⟩ := jv_iff.1 hv
    obtain ⟨c, hc⟩ : ∃ c, c = jCrV a := ⟨_, rfl⟩
    obtain ⟨m, hm⟩ : ∃ m, m = jConj a := ⟨_, rfl⟩
    have HC : Hid (jCr a = (c, true)) := by show _ = _; unfold jCr; rw [hv, hc]; rfl
    have HM : Hid (jMir a = (m, true)) := by show _ = _; rw [hm]; exact jMir_y hv
    have hfc : jFit c = true := by
      rw [hc]; unfold jFit
      rw [jCr_v hv, show gdC (jCrV a).x = true from (gdC_cross h2).trans hy, show gdC (jCrV a).y = true from (gdC_mirror h1).trans hx]; rfl
    have hfm : jFit m = true := by
      rw [hm]; unfold jFit
      rw [jConj_v hv, show gdC (jConj a).x = true from (gdC_mirror h1).trans hx, show gdC (jConj a).y = true from (gdC_mirror h2).trans hy]; rfl
    clear hv hx hy h1 h2 hc hm
    go_wp2_with (first | ((with_reducible refine wpList_load_mid ?kl191 26 ?kl19x ?kl192 (w1.heap.size) 0 ?kl193 [.int .i64 a.x.re, .int .i64 a.x.im, .int .i64 a.x.den, .int .i64 a.y.re, .int .i64 a.y.im, .int .i64 a.y.den] ?kl19d ?kl194 ?kl195 ?kl196 ?kl197 ?kl198); (case kl192 => rfl); (case kl191 => rfl); (case kl193 => rfl); (case kl194 => (exact (rangeAt_new _ _ _))); (case kl195 => exact Try.underlying26); (case kl196 => rfl); (case kl197 => kernel_rfl)))
    refine (ifit_any a _).mono ?_
    rintro e w2 ho
    rw [hf] at ho
    obtain ⟨rfl, hb⟩ : e = .returned (.bool true) ∧ Below _ _ _ := (id ho)
    clear ho
    have HB := Lib.hid (show Below w.heap.size w w2 from HB.out.trans ((show Below _ _ _ from ((Below.refl _ _).alloc (by first | omega | (simp; done) | (simp <;> omega)) _)).trans (hb.mono (by first | omega | (simp <;> omega)))))
    have Ha : Hid (w2.rangeAt (w1.heap.size) 0 [.int .i64 a.x.re, .int .i64 a.x.im, .int .i64 a.x.den, .int .i64 a.y.re, .int .i64 a.y.im, .int .i64 a.y.den]) := rangeAt_below (rangeAt_new _ _ _) hb (by first | omega | (simp; done) | (simp <;> omega))
    have hz2 := hb.size
    (try simp at hz2)
    clear hb
    have nA0 : w1.heap.size < w2.heap.size := by omega
    have nB0 : ¬ w1.heap.size = w2.heap.size := by omega
    have nC0 : ¬ w2.heap.size = w1.heap.size := by omega
    go_wp2_with (first | ((with_reducible refine wpList_load_mid ?kl201 26 ?kl20x ?kl202 (w1.heap.size) 0 ?kl203 [.int .i64 a.x.re, .int .i64 a.x.im, .int .i64 a.x.den, .int .i64 a.y.re, .int .i64 a.y.im, .int .i64 a.y.den] ?kl20d ?kl204 ?kl205 ?kl206 ?kl207 ?kl208); (case kl202 => rfl); (case kl201 => rfl); (case kl203 => rfl); (case kl204 => (exact Ha.out)); (case kl205 => exact Try.underlying26); (case kl206 => rfl); (case kl207 => kernel_rfl)))
    refine (sfit_any a _).mono ?_
    rintro e w3 ho
    rw [hf] at ho
    obtain ⟨rfl, hb⟩ : e = .returned (.bool true) ∧ Below _ _ _ := (id ho)
    clear ho
    have HB := Lib.hid (show Below w.heap.size w w3 from HB.out.trans ((show Below _ _ _ from (Below.refl _ _)).trans (hb.mono (by first | omega | (simp <;> omega)))))
    have Ha : Hid (w3.rangeAt (w1.heap.size) 0 [.int .i64 a.x.re, .int .i64 a.x.im, .int .i64 a.x.den, .int .i64 a.y.re, .int .i64 a.y.im, .int .i64 a.y.den]) := rangeAt_below Ha.out hb (by first | omega | (simp; done) | (simp <;> omega))
    have hz3 := hb.size
    (try simp at hz3)
    clear hb
    have nA0 : w1.heap.size < w3.heap.size := by omega
    have nB0 : ¬ w1.heap.size = w3.heap.size := by omega
    have nC0 : ¬ w3.heap.size = w1.heap.size := by omega
    go_wp2_with (first | ((with_reducible refine wpList_load_mid ?kl211 26 ?kl21x ?kl212 (w1.heap.size) 0 ?kl213 [.int .i64 a.x.re, .int .i64 a.x.im, .int .i64 a.x.den, .int .i64 a.y.re, .int .i64 a.y.im, .int .i64 a.y.den] ?kl21d ?kl214 ?kl215 ?kl216 ?kl217 ?kl218); (case kl212 => rfl); (case kl211 => rfl); (case kl213 => rfl); (case kl214 => (exact Ha.out)); (case kl215 => exact Try.underlying26); (case kl216 => rfl); (case kl217 => kernel_rfl)))
    refine (icross_any a _).mono ?_
    rintro e w4 ho
    rw [HC.out] at ho
    obtain ⟨rfl, hb⟩ : e = .returned (.tuple #[.agg #[.int .i64 c.x.re, .int .i64 c.x.im, .int .i64 c.x.den, .int .i64 c.y.re, .int .i64 c.y.im, .int .i64 c.y.den], .bool true]) ∧ Below _ _ _ := ho.fn
    clear ho
    have HB := Lib.hid (show Below w.heap.size w w4 from HB.out.trans ((show Below _ _ _ from (Below.refl _ _)).trans (hb.mono (by first | omega | (simp <;> omega)))))
    have Ha : Hid (w4.rangeAt (w1.heap.size) 0 [.int .i64 a.x.re, .int .i64 a.x.im, .int .i64 a.x.den, .int .i64 a.y.re, .int .i64 a.y.im, .int .i64 a.y.den]) := rangeAt_below Ha.out hb (by first | omega | (simp; done) | (simp <;> omega))
    have hz4 := hb.size
    (try simp at hz4)
    clear hb
    have nA0 : w1.heap.size < w4.heap.size := by omega
    have nB0 : ¬ w1.heap.size = w4.heap.size := by omega
    have nC0 : ¬ w4.heap.size = w1.heap.size := by omega
    go_wp2_with (first | ((with_reducible refine wpList_load_mid ?kl221 26 ?kl22x ?kl222 (w1.heap.size) 0 ?kl223 [.int .i64 a.x.re, .int .i64 a.x.im, .int .i64 a.x.den, .int .i64 a.y.re, .int .i64 a.y.im, .int .i64 a.y.den] ?kl22d ?kl224 ?kl225 ?kl226 ?kl227 ?kl228); (case kl222 => rfl); (case kl221 => rfl); (case kl223 => rfl); (case kl224 => (exact (World.rangeAt_alloc Ha.out _))); (case kl225 => exact Try.underlying26); (case kl226 => rfl); (case kl227 => kernel_rfl)))
    refine (ijmir a _).mono ?_
    rintro e w5 ho
    rw [HM.out] at ho
    obtain ⟨rfl, hb⟩ : e = .returned (.tuple #[.agg #[.int .i64 m.x.re, .int .i64 m.x.im, .int .i64 m.x.den, .int .i64 m.y.re, .int .i64 m.y.im, .int .i64 m.y.den], .bool true]) ∧ Below _ _ _ := ho.fn
    clear ho
    have HB := Lib.hid (show Below w.heap.size w w5 from HB.out.trans ((show Below _ _ _ from ((Below.refl _ _).alloc (by first | omega | (simp; done) | (simp <;> omega)) _)).trans (hb.mono (by first | omega | (simp <;> omega)))))
    have Ha : Hid (w5.rangeAt (w1.heap.size) 0 [.int .i64 a.x.re, .int .i64 a.x.im, .int .i64 a.x.den, .int .i64 a.y.re, .int .i64 a.y.im, .int .i64 a.y.den]) := rangeAt_below (World.rangeAt_alloc Ha.out _) hb (by first | omega | (simp; done) | (simp <;> omega))
    have Hc : Hid (w5.rangeAt (w4.heap.size) 0 [.int .i64 c.x.re, .int .i64 c.x.im, .int .i64 c.x.den, .int .i64 c.y.re, .int .i64 c.y.im, .int .i64 c.y.den]) := rangeAt_below (rangeAt_new _ _ _) hb (by first | omega | (simp; done) | (simp <;> omega))
    have hz5 := hb.size
    (try simp at hz5)
    clear hb
    have nA0 : w1.heap.size < w5.heap.size := by omega
    have nB0 : ¬ w1.heap.size = w5.heap.size := by omega
    have nC0 : ¬ w5.heap.size = w1.heap.size := by omega
    have nA1 : w4.heap.size < w5.heap.size := by omega
    have nB1 : ¬ w4.heap.size = w5.heap.size := by omega
    have nC1 : ¬ w5.heap.size = w4.heap.size := by omega
    have zc_0 : w5.cell? ⟨w4.heap.size, 0, none⟩ = some (.int .i64 c.x.re) := by have := Hc.out 0 _ rfl; rwa [Nat.zero_add] at this
    have zc_1 : w5.cell? ⟨w4.heap.size, 1, none⟩ = some (.int .i64 c.x.im) := by have := Hc.out 1 _ rfl; rwa [Nat.zero_add] at this
    have zc_2 : w5.cell? ⟨w4.heap.size, 2, none⟩ = some (.int .i64 c.x.den) := by have := Hc.out 2 _ rfl; rwa [Nat.zero_add] at this
    have zc_3 : w5.cell? ⟨w4.heap.size, 3, none⟩ = some (.int .i64 c.y.re) := by have := Hc.out 3 _ rfl; rwa [Nat.zero_add] at this
    have zc_4 : w5.cell? ⟨w4.heap.size, 4, none⟩ = some (.int .i64 c.y.im) := by have := Hc.out 4 _ rfl; rwa [Nat.zero_add] at this
    have zc_5 : w5.cell? ⟨w4.heap.size, 5, none⟩ = some (.int .i64 c.y.den) := by have := Hc.out 5 _ rfl; rwa [Nat.zero_add] at this
    go_wp2_with fail
    refine (ifit_any c _).mono ?_
    rintro e w6 ho
    rw [hfc] at ho
    obtain ⟨rfl, hb⟩ : e = .returned (.bool true) ∧ Below _ _ _ := (id ho)
    clear ho
    have HB := Lib.hid (show Below w.heap.size w w6 from HB.out.trans ((show Below _ _ _ from ((Below.refl _ _).alloc (by first | omega | (simp; done) | (simp <;> omega)) _)).trans (hb.mono (by first | omega | (simp <;> omega)))))
    have Ha : Hid (w6.rangeAt (w1.heap.size) 0 [.int .i64 a.x.re, .int .i64 a.x.im, .int .i64 a.x.den, .int .i64 a.y.re, .int .i64 a.y.im, .int .i64 a.y.den]) := rangeAt_below (World.rangeAt_alloc Ha.out _) hb (by first | omega | (simp; done) | (simp <;> omega))
    have Hc : Hid (w6.rangeAt (w4.heap.size) 0 [.int .i64 c.x.re, .int .i64 c.x.im, .int .i64 c.x.den, .int .i64 c.y.re, .int .i64 c.y.im, .int .i64 c.y.den]) := rangeAt_below (World.rangeAt_alloc Hc.out _) hb (by first | omega | (simp; done) | (simp <;> omega))
    have Hm : Hid (w6.rangeAt (w5.heap.size) 0 [.int .i64 m.x.re, .int .i64 m.x.im, .int .i64 m.x.den, .int .i64 m.y.re, .int .i64 m.y.im, .int .i64 m.y.den]) := rangeAt_below (rangeAt_new _ _ _) hb (by first | omega | (simp; done) | (simp <;> omega))
    have hz6 := hb.size
    (try simp at hz6)
    clear hb
    have nA0 : w1.heap.size < w6.heap.size := by omega
    have nB0 : ¬ w1.heap.size = w6.heap.size := by omega
    have nC0 : ¬ w6.heap.size = w1.heap.size := by omega
    have nA1 : w4.heap.size < w6.heap.size := by omega
    have nB1 : ¬ w4.heap.size = w6.heap.size := by omega
    have nC1 : ¬ w6.heap.size = w4.heap.size := by omega
    have nA2 : w5.heap.size < w6.heap.size := by omega
    have nB2 : ¬ w5.heap.size = w6.heap.size := by omega
    have nC2 : ¬ w6.heap.size = w5.heap.size := by omega
    have zm_0 : w6.cell? ⟨w5.heap.size, 0, none⟩ = some (.int .i64 m.x.re) := by have := Hm.out 0 _ rfl; rwa [Nat.zero_add] at this
    have zm_1 : w6.cell? ⟨w5.heap.size, 1, none⟩ = some (.int .i64 m.x.im) := by have := Hm.out 1 _ rfl; rwa [Nat.zero_add] at this
    have zm_2 : w6.cell? ⟨w5.heap.size, 2, none⟩ = some (.int .i64 m.x.den) := by have := Hm.out 2 _ rfl; rwa [Nat.zero_add] at this
    have zm_3 : w6.cell? ⟨w5.heap.size, 3, none⟩ = some (.int .i64 m.y.re) := by have := Hm.out 3 _ rfl; rwa [Nat.zero_add] at this
    have zm_4 : w6.cell? ⟨w5.heap.size, 4, none⟩ = some (.int .i64 m.y.im) := by have := Hm.out 4 _ rfl; rwa [Nat.zero_add] at this
    have zm_5 : w6.cell? ⟨w5.heap.size, 5, none⟩ = some (.int .i64 m.y.den) := by have := Hm.out 5 _ rfl; rwa [Nat.zero_add] at this
    go_wp2_with fail
    refine (ifit_any m _).mono ?_
    rintro e w7 ho
    rw [hfm] at ho
    obtain ⟨rfl, hb⟩ : e = .returned (.bool true) ∧ Below _ _ _ := (id ho)
    clear ho
    have HB := Lib.hid (show Below w.heap.size w w7 from HB.out.trans ((show Below _ _ _ from (Below.refl _ _)).trans (hb.mono (by first | omega | (simp <;> omega)))))
    have Ha : Hid (w7.rangeAt (w1.heap.size) 0 [.int .i64 a.x.re, .int .i64 a.x.im, .int .i64 a.x.den, .int .i64 a.y.re, .int .i64 a.y.im, .int .i64 a.y.den]) := rangeAt_below Ha.out hb (by first | omega | (simp; done) | (simp <;> omega))
    have Hc : Hid (w7.rangeAt (w4.heap.size) 0 [.int .i64 c.x.re, .int .i64 c.x.im, .int .i64 c.x.den, .int .i64 c.y.re, .int .i64 c.y.im, .int .i64 c.y.den]) := rangeAt_below Hc.out hb (by first | omega | (simp; done) | (simp <;> omega))
    have Hm : Hid (w7.rangeAt (w5.heap.size) 0 [.int .i64 m.x.re, .int .i64 m.x.im, .int .i64 m.x.den, .int .i64 m.y.re, .int .i64 m.y.im, .int .i64 m.y.den]) := rangeAt_below Hm.out hb (by first | omega | (simp; done) | (simp <;> omega))
    have hz7 := hb.size
    (try simp at hz7)
    clear hb
    have nA0 : w1.heap.size < w7.heap.size := by omega
    have nB0 : ¬ w1.heap.size = w7.heap.size := by omega
    have nC0 : ¬ w7.heap.size = w1.heap.size := by omega
    have nA1 : w4.heap.size < w7.heap.size := by omega
    have nB1 : ¬ w4.heap.size = w7.heap.size := by omega
    have nC1 : ¬ w7.heap.size = w4.heap.size := by omega
    have nA2 : w5.heap.size < w7.heap.size := by omega
    have nB2 : ¬ w5.heap.size = w7.heap.size := by omega
    have nC2 : ¬ w7.heap.size = w5.heap.size := by omega
    go_wp2_with fail
    go_ret
    exact ⟨rfl, (by (repeat' first | (with_reducible exact HB.out) | with_reducible refine setCells_below _ _ _ ?_ (by first | omega | (simp <;> omega)) | with_reducible refine Below.setCell ?_ (by show _ ≤ _; first | omega | (simp <;> omega) | simp) _ | with_reducible refine Below.alloc ?_ (by first | omega | (simp <;> omega)) _ | with_reducible apply Below.drew | with_reducible refine below_drewN ?_ _))⟩
set_option maxRecDepth 100000 in
theorem lifted_FnFits (os : Os) (started : os.Started) (H : Type) (enc : TypeId × Value → H) :
    ReturnsInHanded {} Try.checked os 5 .any (Rows.fnFitsSpec.pre6 enc Try.prog Try.f5 Rows.fnFitsRow.domain false) (Rows.fnFitsSpec.post enc Try.prog Try.f5 false true false false) := by
  refine returnsInHanded_of_change (C := Try.checked) Try.own started (by kernel_rfl) Try.func5
    (ChangeSpec.witness6 (enc := enc) (C := Try.checked) false ⟨#[], #[.slice none 0 0], []⟩ 8 (by kernel_rfl) (by kernel_rfl) (by kernel_rfl) (by kernel_rfl)) ?_
  intro W base args ds gs before hval0 hW hcnd _
  have hval : ∀ (j : Nat) t v, Try.f5.params[j]? = some t → args[j]? = some v → Value.okWide Try.prog W .any base t v := hval0
  have hW' := hW
  obtain ⟨p, q, hA0, hV, rfl, hfz, hnd⟩ := hW
  have hA : DataW.TrodAll enc Try.prog W 0 (fun _ => true) true Try.f5.params.toList args.toList ds p := hA0
  rw [Try.params5] at hA hval
  obtain ⟨v0, d0, rfl, rfl, h0⟩ := trodAll_one hA
  obtain ⟨rfl, rfl⟩ := trodVars_none hV
  have h0k := h0
  obtain ⟨fuel, hf⟩ := h0
  clear hA0 hval0
  simp only [List.append_nil] at hW'
  have hlt : ∀ x ∈ p, x.block < W.heap.size := fun x hx => by simpa using hW'.lt x hx
  obtain ⟨a0, len, cap, rfl⟩ := okWide_slice Try.underlying22 (hval 0 22 v0 rfl rfl)
  obtain ⟨hcap, HC⟩ := open_code hf hlt
  refine (walk_FnFits a0 len cap W hcap HC).mono fun e W' ⟨he, hb⟩ => ?_
  subst he
  refine ⟨_, rfl, _, _, _, [], p, [], hW', trodAll_mk1 (shut_bool Try.underlying4 _), trodAll_mk1 (Below.trod Try.laidOut (by kernel_rfl) (of_decide_eq_true (by kernel_rfl)) h0k hb (fun x hx => hlt x (by simp [hx]))), rfl, hb.frame _, fun h => by cases h⟩
/-- THE STATEMENT. -/
theorem holds_FnFits : Rows.FnFitsSaid :=
  OpenClaim.holds_of_wide 5 Try.f5 rfl rfl rfl rfl rfl rfl rfl ⟨rfl, rfl, rfl, rfl, rfl⟩ rfl rfl rfl rfl rfl (by kernel_rfl) Try.func5 (by kernel_rfl)
    (of_decide_eq_true (by kernel_rfl)) (by unfold Func.isWrapper; first | (rw [if_pos (by decide +kernel)]; kernel_rfl) | (rw [if_neg (by decide +kernel)]; exact ⟨rfl, rfl⟩))
    (fun os started H enc _ => lifted_FnFits os started H enc)
end Go.Proofs.Ytamdjgehmmogjaa
