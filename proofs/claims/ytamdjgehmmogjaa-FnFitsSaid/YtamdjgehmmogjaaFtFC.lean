/- Contracts: fractions and vectors as floats, both sides. -/
import Derived.Test.YtamdjgehmmogjaaFtFP
import Derived.Test.YtamdjgehmmogjaaFtG4
import Derived.Test.YtamdjgehmmogjaaFtG0
import Derived.Laws.ComplexArith
set_option maxRecDepth 100000
namespace Go.Proofs.Ytamdjgehmmogjaa
open Go.RowKit Pol
def fwR (a : Fr) : Nat := if vld a = true then wB a.re a.den else 0
def fwI (a : Fr) : Nat := if vld a = true then wB a.im a.den else 0
theorem fwR_y {a : Fr} (h : vld a = true) : fwR a = wB a.re a.den := if_pos h
theorem fwI_y {a : Fr} (h : vld a = true) : fwI a = wB a.im a.den := if_pos h
theorem fwR_n {a : Fr} (h : vld a = false) : fwR a = 0 := by unfold fwR; rw [h]; rfl
theorem fwI_n {a : Fr} (h : vld a = false) : fwI a = 0 := by unfold fwI; rw [h]; rfl
def gdC (a : Fr) : Bool := gdF a.re a.den && gdF a.im a.den
/-- Does a vector fit? -/
def jFit (a : J2) : Bool := jv a && gdC a.x && gdC a.y
theorem jFit_n {a : J2} (h : jv a = false) : jFit a = false := by unfold jFit; rw [h]; rfl
theorem gdC_cross {a : Fr} (h : vld a = true) : gdC ⟨-a.re, a.im, a.den⟩ = gdC a := by
  obtain ⟨⟨b0, b1⟩, ⟨b2, b3⟩, ⟨b4, b5⟩, -⟩ := (vld_iff _).1 h
  show (gdF (-a.re) a.den && gdF a.im a.den) = (gdF a.re a.den && gdF a.im a.den)
  rw [gdF_neg b0 b1 b4 b5]
theorem gdC_mirror {a : Fr} (h : vld a = true) : gdC ⟨a.re, -a.im, a.den⟩ = gdC a := by
  obtain ⟨⟨b0, b1⟩, ⟨b2, b3⟩, ⟨b4, b5⟩, -⟩ := (vld_iff _).1 h
  show (gdF a.re a.den && gdF (-a.im) a.den) = (gdF a.re a.den && gdF a.im a.den)
  rw [gdF_neg b2 b3 b4 b5]
theorem jFit_parts {a : J2} (h : jFit a = true) : jv a = true ∧ gdC a.x = true ∧ gdC a.y = true := by
  unfold jFit at h
  simp only [Bool.and_eq_true] at h
  exact ⟨h.1.1, h.1.2, h.2⟩
section
variable {P : Program} (w : World)
theorem cnv_narrow {a : Fr} (h : vld a = true) (src dst : TypeId) (hs : (P.underlying src).isSome = true) (hd : P.underlying dst = some (.complex .f32)) :
    (convert src dst (.complex .f64 (wB a.re a.den) (wB a.im a.den))).run P w = .ok (.complex .f32 (nB a.re a.den) (nB a.im a.den)) w := by
  obtain ⟨⟨b0, b1⟩, ⟨b2, b3⟩, ⟨b4, b5⟩, -⟩ := (vld_iff _).1 h
  obtain ⟨u, hs'⟩ := Option.isSome_iff_exists.1 hs
  cases u <;> simp [convert, run_underlying hs', run_underlying hd, Conv.complexToComplex, conv_narrow b0 b1 b4 b5, conv_narrow b2 b3 b4 b5]
theorem cnv_wide {a : Fr} (h : vld a = true) (src dst : TypeId) (hs : (P.underlying src).isSome = true) (hd : P.underlying dst = some (.complex .f64)) :
    (convert src dst (.complex .f32 (nB a.re a.den) (nB a.im a.den))).run P w = .ok (.complex .f64 (bB a.re a.den) (bB a.im a.den)) w := by
  obtain ⟨⟨b0, b1⟩, ⟨b2, b3⟩, ⟨b4, b5⟩, -⟩ := (vld_iff _).1 h
  obtain ⟨u, hs'⟩ := Option.isSome_iff_exists.1 hs
  cases u <;> simp [convert, run_underlying hs', run_underlying hd, Conv.complexToComplex, conv_wide b0 b1 b4 b5, conv_wide b2 b3 b4 b5]
theorem eql_parts (a : Fr) (t : TypeId) : (binOp .eql t (.complex .f64 (bB a.re a.den) (bB a.im a.den)) (.complex .f64 (wB a.re a.den) (wB a.im a.den))).run P w = .ok (.bool (gdC a)) w := run_eql_complex (P := P) w t .f64 _ _ _ _
end
set_option maxRecDepth 100000 in
set_option maxHeartbeats 8000000 in
theorem ifw_any (a : Fr) (w : World) :
    Calls Try.prog 63 #[.agg #[.int .i64 a.re, .int .i64 a.im, .int .i64 a.den]] w (fun e w' => e = .returned (.tuple #[.complex .f64 (fwR a) (fwI a), .bool (vld a)]) ∧ Below w.heap.size w w') := by
  cases hv : vld a
  · skip
    have HG1 := Lib.hid (fwR_n hv)
    have HG2 := Lib.hid (fwI_n hv)
    have HB : Hid (Below w.heap.size w w) := Below.refl _ _
    go_enter Try.func63, Try.ntmps63
    go_wp2_with (first | ((with_reducible refine wpList_load_mid ?kl11 24 ?kl1x ?kl12 (w.heap.size) 0 ?kl13 [.int .i64 a.re, .int .i64 a.im, .int .i64 a.den] ?kl1d ?kl14 ?kl15 ?kl16 ?kl17 ?kl18); (case kl12 => rfl); (case kl11 => rfl); (case kl13 => rfl); (case kl14 => (exact (rangeAt_new _ _ _))); (case kl15 => exact Try.underlying24); (case kl16 => rfl); (case kl17 => kernel_rfl)))
    refine (valid_b hv _).mono ?_
    rintro e w1 ho
    obtain ⟨rfl, hb⟩ : e = .returned (.bool false) ∧ Below _ _ _ := (id ho)
    clear ho
    have HB := Lib.hid (show Below w.heap.size w w1 from HB.out.trans ((show Below _ _ _ from ((Below.refl _ _).alloc (by first | omega | (simp; done) | (simp <;> omega)) _)).trans (hb.mono (by first | omega | (simp <;> omega)))))
    have Ha : Hid (w1.rangeAt (w.heap.size) 0 [.int .i64 a.re, .int .i64 a.im, .int .i64 a.den]) := rangeAt_below (rangeAt_new _ _ _) hb (by first | omega | (simp; done) | (simp <;> omega))
    have hz1 := hb.size
    (try simp at hz1)
    clear hb
    have nA0 : w.heap.size < w1.heap.size := by omega
    have nB0 : ¬ w.heap.size = w1.heap.size := by omega
    have nC0 : ¬ w1.heap.size = w.heap.size := by omega
    go_wp2_with fail
    all_goals (refine bodyPost_ret (v := .tuple #[.complex .f64 0 0, .bool false]) (by simp [results, Try.results63, go_sem]) rfl ⟨by rw [HG1.out, HG2.out], (by (repeat' first | (with_reducible exact HB.out) | with_reducible refine setCells_below _ _ _ ?_ (by first | omega | (simp <;> omega)) | with_reducible refine Below.setCell ?_ (by show _ ≤ _; first | omega | (simp <;> omega) | simp) _ | with_reducible refine Below.alloc ?_ (by first | omega | (simp <;> omega)) _ | with_reducible apply Below.drew | with_reducible refine below_drewN ?_ _))⟩)
  · skip
    have HG1 := Lib.hid (fwR_y hv)
    have HG2 := Lib.hid (fwI_y hv)
    obtain ⟨⟨b0, b1⟩, ⟨b2, b3⟩, ⟨b4, b5⟩, -⟩ := (vld_iff _).1 hv
    have hq1 : ∀ t w, (binOp .quo t (.float .f64 (floatOfInt .f64 a.re)) (.float .f64 (floatOfInt .f64 a.den))).run Try.prog w = .ok (.float .f64 (wB a.re a.den)) w := fun t w => run_float_arith w .quo t .f64 _ _ _ (quo_word b0 b1 b4 b5)
    have hq2 : ∀ t w, (binOp .quo t (.float .f64 (floatOfInt .f64 a.im)) (.float .f64 (floatOfInt .f64 a.den))).run Try.prog w = .ok (.float .f64 (wB a.im a.den)) w := fun t w => run_float_arith w .quo t .f64 _ _ _ (quo_word b2 b3 b4 b5)
    clear b0 b1 b2 b3 b4 b5
    have HB : Hid (Below w.heap.size w w) := Below.refl _ _
    go_enter Try.func63, Try.ntmps63
    go_wp2_with (first | ((with_reducible refine wpList_load_mid ?kl21 24 ?kl2x ?kl22 (w.heap.size) 0 ?kl23 [.int .i64 a.re, .int .i64 a.im, .int .i64 a.den] ?kl2d ?kl24 ?kl25 ?kl26 ?kl27 ?kl28); (case kl22 => rfl); (case kl21 => rfl); (case kl23 => rfl); (case kl24 => (exact (rangeAt_new _ _ _))); (case kl25 => exact Try.underlying24); (case kl26 => rfl); (case kl27 => kernel_rfl)))
    refine (valid_b hv _).mono ?_
    rintro e w1 ho
    obtain ⟨rfl, hb⟩ : e = .returned (.bool true) ∧ Below _ _ _ := (id ho)
    clear ho
    have HB := Lib.hid (show Below w.heap.size w w1 from HB.out.trans ((show Below _ _ _ from ((Below.refl _ _).alloc (by first | omega | (simp; done) | (simp <;> omega)) _)).trans (hb.mono (by first | omega | (simp <;> omega)))))
    have Ha : Hid (w1.rangeAt (w.heap.size) 0 [.int .i64 a.re, .int .i64 a.im, .int .i64 a.den]) := rangeAt_below (rangeAt_new _ _ _) hb (by first | omega | (simp; done) | (simp <;> omega))
    have hz1 := hb.size
    (try simp at hz1)
    clear hb
    have nA0 : w.heap.size < w1.heap.size := by omega
    have nB0 : ¬ w.heap.size = w1.heap.size := by omega
    have nC0 : ¬ w1.heap.size = w.heap.size := by omega
    have za_0 : w1.cell? ⟨w.heap.size, 0, none⟩ = some (.int .i64 a.re) := by have := Ha.out 0 _ rfl; rwa [Nat.zero_add] at this
    have za_1 : w1.cell? ⟨w.heap.size, 1, none⟩ = some (.int .i64 a.im) := by have := Ha.out 1 _ rfl; rwa [Nat.zero_add] at this
    have za_2 : w1.cell? ⟨w.heap.size, 2, none⟩ = some (.int .i64 a.den) := by have := Ha.out 2 _ rfl; rwa [Nat.zero_add] at this
    go_wp2_with fail
    all_goals (refine bodyPost_ret (v := .tuple #[.complex .f64 (wB a.re a.den) (wB a.im a.den), .bool true]) (by simp [results, Try.results63, go_sem]) rfl ⟨by rw [HG1.out, HG2.out], (by (repeat' first | (with_reducible exact HB.out) | with_reducible refine setCells_below _ _ _ ?_ (by first | omega | (simp <;> omega)) | with_reducible refine Below.setCell ?_ (by show _ ≤ _; first | omega | (simp <;> omega) | simp) _ | with_reducible refine Below.alloc ?_ (by first | omega | (simp <;> omega)) _ | with_reducible apply Below.drew | with_reducible refine below_drewN ?_ _))⟩)
set_option maxRecDepth 100000 in
set_option maxHeartbeats 8000000 in
theorem sfw_any (a : Fr) (w : World) :
    Calls Try.prog 64 #[.agg #[.int .i64 a.re, .int .i64 a.im, .int .i64 a.den]] w (fun e w' => e = .returned (.tuple #[.complex .f64 (fwR a) (fwI a), .bool (vld a)]) ∧ Below w.heap.size w w') := by
  cases hv : vld a
  · skip
    have HG1 := Lib.hid (fwR_n hv)
    have HG2 := Lib.hid (fwI_n hv)
    have HB : Hid (Below w.heap.size w w) := Below.refl _ _
    go_enter Try.func64, Try.ntmps64
    go_wp2_with (first | ((with_reducible refine wpList_load_mid ?kl31 24 ?kl3x ?kl32 (w.heap.size) 0 ?kl33 [.int .i64 a.re, .int .i64 a.im, .int .i64 a.den] ?kl3d ?kl34 ?kl35 ?kl36 ?kl37 ?kl38); (case kl32 => rfl); (case kl31 => rfl); (case kl33 => rfl); (case kl34 => (exact (rangeAt_new _ _ _))); (case kl35 => exact Try.underlying24); (case kl36 => rfl); (case kl37 => kernel_rfl)))
    refine (svalid_b hv _).mono ?_
    rintro e w1 ho
    obtain ⟨rfl, hb⟩ : e = .returned (.bool false) ∧ Below _ _ _ := (id ho)
    clear ho
    have HB := Lib.hid (show Below w.heap.size w w1 from HB.out.trans ((show Below _ _ _ from ((Below.refl _ _).alloc (by first | omega | (simp; done) | (simp <;> omega)) _)).trans (hb.mono (by first | omega | (simp <;> omega)))))
    have Ha : Hid (w1.rangeAt (w.heap.size) 0 [.int .i64 a.re, .int .i64 a.im, .int .i64 a.den]) := rangeAt_below (rangeAt_new _ _ _) hb (by first | omega | (simp; done) | (simp <;> omega))
    have hz1 := hb.size
    (try simp at hz1)
    clear hb
    have nA0 : w.heap.size < w1.heap.size := by omega
    have nB0 : ¬ w.heap.size = w1.heap.size := by omega
    have nC0 : ¬ w1.heap.size = w.heap.size := by omega
    go_wp2_with fail
    all_goals (refine bodyPost_ret (v := .tuple #[.complex .f64 0 0, .bool false]) (by simp [results, Try.results64, go_sem]) rfl ⟨by rw [HG1.out, HG2.out], (by (repeat' first | (with_reducible exact HB.out) | with_reducible refine setCells_below _ _ _ ?_ (by first | omega | (simp <;> omega)) | with_reducible refine Below.setCell ?_ (by show _ ≤ _; first | omega | (simp <;> omega) | simp) _ | with_reducible refine Below.alloc ?_ (by first | omega | (simp <;> omega)) _ | with_reducible apply Below.drew | with_reducible refine below_drewN ?_ _))⟩)
  · skip
    have HG1 := Lib.hid (fwR_y hv)
    have HG2 := Lib.hid (fwI_y hv)
    obtain ⟨⟨b0, b1⟩, ⟨b2, b3⟩, ⟨b4, b5⟩, -⟩ := (vld_iff _).1 hv
    have hq1 : ∀ t w, (binOp .quo t (.float .f64 (floatOfInt .f64 a.re)) (.float .f64 (floatOfInt .f64 a.den))).run Try.prog w = .ok (.float .f64 (wB a.re a.den)) w := fun t w => run_float_arith w .quo t .f64 _ _ _ (quo_word b0 b1 b4 b5)
    have hq2 : ∀ t w, (binOp .quo t (.float .f64 (floatOfInt .f64 a.im)) (.float .f64 (floatOfInt .f64 a.den))).run Try.prog w = .ok (.float .f64 (wB a.im a.den)) w := fun t w => run_float_arith w .quo t .f64 _ _ _ (quo_word b2 b3 b4 b5)
    clear b0 b1 b2 b3 b4 b5
    have HB : Hid (Below w.heap.size w w) := Below.refl _ _
    go_enter Try.func64, Try.ntmps64
    go_wp2_with (first | ((with_reducible refine wpList_load_mid ?kl41 24 ?kl4x ?kl42 (w.heap.size) 0 ?kl43 [.int .i64 a.re, .int .i64 a.im, .int .i64 a.den] ?kl4d ?kl44 ?kl45 ?kl46 ?kl47 ?kl48); (case kl42 => rfl); (case kl41 => rfl); (case kl43 => rfl); (case kl44 => (exact (rangeAt_new _ _ _))); (case kl45 => exact Try.underlying24); (case kl46 => rfl); (case kl47 => kernel_rfl)))
    refine (svalid_b hv _).mono ?_
    rintro e w1 ho
    obtain ⟨rfl, hb⟩ : e = .returned (.bool true) ∧ Below _ _ _ := (id ho)
    clear ho
    have HB := Lib.hid (show Below w.heap.size w w1 from HB.out.trans ((show Below _ _ _ from ((Below.refl _ _).alloc (by first | omega | (simp; done) | (simp <;> omega)) _)).trans (hb.mono (by first | omega | (simp <;> omega)))))
    have Ha : Hid (w1.rangeAt (w.heap.size) 0 [.int .i64 a.re, .int .i64 a.im, .int .i64 a.den]) := rangeAt_below (rangeAt_new _ _ _) hb (by first | omega | (simp; done) | (simp <;> omega))
    have hz1 := hb.size
    (try simp at hz1)
    clear hb
    have nA0 : w.heap.size < w1.heap.size := by omega
    have nB0 : ¬ w.heap.size = w1.heap.size := by omega
    have nC0 : ¬ w1.heap.size = w.heap.size := by omega
    have za_0 : w1.cell? ⟨w.heap.size, 0, none⟩ = some (.int .i64 a.re) := by have := Ha.out 0 _ rfl; rwa [Nat.zero_add] at this
    have za_1 : w1.cell? ⟨w.heap.size, 1, none⟩ = some (.int .i64 a.im) := by have := Ha.out 1 _ rfl; rwa [Nat.zero_add] at this
    have za_2 : w1.cell? ⟨w.heap.size, 2, none⟩ = some (.int .i64 a.den) := by have := Ha.out 2 _ rfl; rwa [Nat.zero_add] at this
    go_wp2_with fail
    all_goals (refine bodyPost_ret (v := .tuple #[.complex .f64 (wB a.re a.den) (wB a.im a.den), .bool true]) (by simp [results, Try.results64, go_sem]) rfl ⟨by rw [HG1.out, HG2.out], (by (repeat' first | (with_reducible exact HB.out) | with_reducible refine setCells_below _ _ _ ?_ (by first | omega | (simp <;> omega)) | with_reducible refine Below.setCell ?_ (by show _ ≤ _; first | omega | (simp <;> omega) | simp) _ | with_reducible refine Below.alloc ?_ (by first | omega | (simp <;> omega)) _ | with_reducible apply Below.drew | with_reducible refine below_drewN ?_ _))⟩)
set_option maxRecDepth 100000 in
set_option maxHeartbeats 8000000 in
theorem ijw_any (a : J2) (w : World) :
    Calls Try.prog 43 #[.agg #[.int .i64 a.x.re, .int .i64 a.x.im, .int .i64 a.x.den, .int .i64 a.y.re, .int .i64 a.y.im, .int .i64 a.y.den]] w (fun e w' => e = .returned (.tuple #[.complex .f64 (if jv a = true then wB a.x.re a.x.den else 0) (if jv a = true then wB a.x.im a.x.den else 0), .complex .f64 (if jv a = true then wB a.y.re a.y.den else 0) (if jv a = true then wB a.y.im a.y.den else 0), .bool (jv a)]) ∧ Below w.heap.size w w') := by
  cases hv : jv a
  · skip
    have HV := Lib.hid hv
    have HB : Hid (Below w.heap.size w w) := Below.refl _ _
    go_enter Try.func43, Try.ntmps43
    go_wp2_with (first | ((with_reducible refine wpList_load_mid ?kl51 26 ?kl5x ?kl52 (w.heap.size) 0 ?kl53 [.int .i64 a.x.re, .int .i64 a.x.im, .int .i64 a.x.den, .int .i64 a.y.re, .int .i64 a.y.im, .int .i64 a.y.den] ?kl5d ?kl54 ?kl55 ?kl56 ?kl57 ?kl58); (case kl52 => rfl); (case kl51 => rfl); (case kl53 => rfl); (case kl54 => (exact (rangeAt_new _ _ _))); (case kl55 => exact Try.underlying26); (case kl56 => rfl); (case kl57 => kernel_rfl)))
    refine (ijv_any a _).mono ?_
    rintro e w1 ho
    rw [hv] at ho
    obtain ⟨rfl, hb⟩ : e = .returned (.bool false) ∧ Below _ _ _ := (id ho)
    clear ho
    have HB := Lib.hid (show Below w.heap.size w w1 from HB.out.trans ((show Below _ _ _ from ((Below.refl _ _).alloc (by first | omega | (simp; done) | (simp <;> omega)) _)).trans (hb.mono (by first | omega | (simp <;> omega)))))
    have Ha : Hid (w1.rangeAt (w.heap.size) 0 [.int .i64 a.x.re, .int .i64 a.x.im, .int .i64 a.x.den, .int .i64 a.y.re, .int .i64 a.y.im, .int .i64 a.y.den]) := rangeAt_below (rangeAt_new _ _ _) hb (by first | omega | (simp; done) | (simp <;> omega))
    have hz1 := hb.size
    (try simp at hz1)
    clear hb
    have nA0 : w.heap.size < w1.heap.size := by omega
    have nB0 : ¬ w.heap.size = w1.heap.size := by omega
    have nC0 : ¬ w1.heap.size = w.heap.size := by omega
    go_wp2_with fail
    all_goals (refine bodyPost_ret (v := .tuple #[.complex .f64 0 0, .complex .f64 0 0, .bool false]) (by simp [results, Try.results43, go_sem]) rfl ⟨by rfl, (by (repeat' first | (with_reducible exact HB.out) | with_reducible refine setCells_below _ _ _ ?_ (by first | omega | (simp <;> omega)) | with_reducible refine Below.setCell ?_ (by show _ ≤ _; first | omega | (simp <;> omega) | simp) _ | with_reducible refine Below.alloc ?_ (by first | omega | (simp <;> omega)) _ | with_reducible apply Below.drew | with_reducible refine below_drewN ?_ _))⟩)
  · skip
    have HV := Lib.hid hv
    obtain ⟨h1, h2⟩ := jv_iff.1 hv
    have HB : Hid (Below w.heap.size w w) := Below.refl _ _
    go_enter Try.func43, Try.ntmps43
    go_wp2_with (first | ((with_reducible refine wpList_load_mid ?kl61 26 ?kl6x ?kl62 (w.heap.size) 0 ?kl63 [.int .i64 a.x.re, .int .i64 a.x.im, .int .i64 a.x.den, .int .i64 a.y.re, .int .i64 a.y.im, .int .i64 a.y.den] ?kl6d ?kl64 ?kl65 ?kl66 ?kl67 ?kl68); (case kl62 => rfl); (case kl61 => rfl); (case kl63 => rfl); (case kl64 => (exact (rangeAt_new _ _ _))); (case kl65 => exact Try.underlying26); (case kl66 => rfl); (case kl67 => kernel_rfl)))
    refine (ijv_any a _).mono ?_
    rintro e w1 ho
    rw [hv] at ho
    obtain ⟨rfl, hb⟩ : e = .returned (.bool true) ∧ Below _ _ _ := (id ho)
    clear ho
    have HB := Lib.hid (show Below w.heap.size w w1 from HB.out.trans ((show Below _ _ _ from ((Below.refl _ _).alloc (by first | omega | (simp; done) | (simp <;> omega)) _)).trans (hb.mono (by first | omega | (simp <;> omega)))))
    have Ha : Hid (w1.rangeAt (w.heap.size) 0 [.int .i64 a.x.re, .int .i64 a.x.im, .int .i64 a.x.den, .int .i64 a.y.re, .int .i64 a.y.im, .int .i64 a.y.den]) := rangeAt_below (rangeAt_new _ _ _) hb (by first | omega | (simp; done) | (simp <;> omega))
    have hz1 := hb.size
    (try simp at hz1)
    clear hb
    have nA0 : w.heap.size < w1.heap.size := by omega
    have nB0 : ¬ w.heap.size = w1.heap.size := by omega
    have nC0 : ¬ w1.heap.size = w.heap.size := by omega
    have za_0 : w1.cell? ⟨w.heap.size, 0, none⟩ = some (.int .i64 a.x.re) := by have := Ha.out 0 _ rfl; rwa [Nat.zero_add] at this
    have za_1 : w1.cell? ⟨w.heap.size, 1, none⟩ = some (.int .i64 a.x.im) := by have := Ha.out 1 _ rfl; rwa [Nat.zero_add] at this
    have za_2 : w1.cell? ⟨w.heap.size, 2, none⟩ = some (.int .i64 a.x.den) := by have := Ha.out 2 _ rfl; rwa [Nat.zero_add] at this
    have za_3 : w1.cell? ⟨w.heap.size, 3, none⟩ = some (.int .i64 a.y.re) := by have := Ha.out 3 _ rfl; rwa [Nat.zero_add] at this
    have za_4 : w1.cell? ⟨w.heap.size, 4, none⟩ = some (.int .i64 a.y.im) := by have := Ha.out 4 _ rfl; rwa [Nat.zero_add] at this
    have za_5 : w1.cell? ⟨w.heap.size, 5, none⟩ = some (.int .i64 a.y.den) := by have := Ha.out 5 _ rfl; rwa [Nat.zero_add] at this
    go_wp2_with fail
    refine (ifw_any a.x _).mono ?_
    rintro e w2 ho
    rw [fwR_y h1, fwI_y h1, h1] at ho
    obtain ⟨rfl, hb⟩ : e = .returned (.tuple #[.complex .f64 (wB a.x.re a.x.den) (wB a.x.im a.x.den), .bool true]) ∧ Below _ _ _ := (id ho)
    clear ho
    have HB := Lib.hid (show Below w.heap.size w w2 from HB.out.trans ((show Below _ _ _ from (Below.refl _ _)).trans (hb.mono (by first | omega | (simp <;> omega)))))
    have Ha : Hid (w2.rangeAt (w.heap.size) 0 [.int .i64 a.x.re, .int .i64 a.x.im, .int .i64 a.x.den, .int .i64 a.y.re, .int .i64 a.y.im, .int .i64 a.y.den]) := rangeAt_below Ha.out hb (by first | omega | (simp; done) | (simp <;> omega))
    have hz2 := hb.size
    (try simp at hz2)
    clear hb
    have nA0 : w.heap.size < w2.heap.size := by omega
    have nB0 : ¬ w.heap.size = w2.heap.size := by omega
    have nC0 : ¬ w2.heap.size = w.heap.size := by omega
    have za_0 : w2.cell? ⟨w.heap.size, 0, none⟩ = some (.int .i64 a.x.re) := by have := Ha.out 0 _ rfl; rwa [Nat.zero_add] at this
    have za_1 : w2.cell? ⟨w.heap.size, 1, none⟩ = some (.int .i64 a.x.im) := by have := Ha.out 1 _ rfl; rwa [Nat.zero_add] at this
    have za_2 : w2.cell? ⟨w.heap.size, 2, none⟩ = some (.int .i64 a.x.den) := by have := Ha.out 2 _ rfl; rwa [Nat.zero_add] at this
    have za_3 : w2.cell? ⟨w.heap.size, 3, none⟩ = some (.int .i64 a.y.re) := by have := Ha.out 3 _ rfl; rwa [Nat.zero_add] at this
    have za_4 : w2.cell? ⟨w.heap.size, 4, none⟩ = some (.int .i64 a.y.im) := by have := Ha.out 4 _ rfl; rwa [Nat.zero_add] at this
    have za_5 : w2.cell? ⟨w.heap.size, 5, none⟩ = some (.int .i64 a.y.den) := by have := Ha.out 5 _ rfl; rwa [Nat.zero_add] at this
    go_wp2_with fail
    refine (ifw_any a.y _).mono ?_
    rintro e w3 ho
    rw [fwR_y h2, fwI_y h2, h2] at ho
    obtain ⟨rfl, hb⟩ : e = .returned (.tuple #[.complex .f64 (wB a.y.re a.y.den) (wB a.y.im a.y.den), .bool true]) ∧ Below _ _ _ := (id ho)
    clear ho
    have HB := Lib.hid (show Below w.heap.size w w3 from HB.out.trans ((show Below _ _ _ from (Below.refl _ _)).trans (hb.mono (by first | omega | (simp <;> omega)))))
    have Ha : Hid (w3.rangeAt (w.heap.size) 0 [.int .i64 a.x.re, .int .i64 a.x.im, .int .i64 a.x.den, .int .i64 a.y.re, .int .i64 a.y.im, .int .i64 a.y.den]) := rangeAt_below Ha.out hb (by first | omega | (simp; done) | (simp <;> omega))
    have hz3 := hb.size
    (try simp at hz3)
    clear hb
    have nA0 : w.heap.size < w3.heap.size := by omega
    have nB0 : ¬ w.heap.size = w3.heap.size := by omega
    have nC0 : ¬ w3.heap.size = w.heap.size := by omega
    go_wp2_with fail
    all_goals (refine bodyPost_ret (v := .tuple #[.complex .f64 (wB a.x.re a.x.den) (wB a.x.im a.x.den), .complex .f64 (wB a.y.re a.y.den) (wB a.y.im a.y.den), .bool true]) (by simp [results, Try.results43, go_sem]) rfl ⟨by rfl, (by (repeat' first | (with_reducible exact HB.out) | with_reducible refine setCells_below _ _ _ ?_ (by first | omega | (simp <;> omega)) | with_reducible refine Below.setCell ?_ (by show _ ≤ _; first | omega | (simp <;> omega) | simp) _ | with_reducible refine Below.alloc ?_ (by first | omega | (simp <;> omega)) _ | with_reducible apply Below.drew | with_reducible refine below_drewN ?_ _))⟩)
set_option maxRecDepth 100000 in
set_option maxHeartbeats 8000000 in
theorem sjw_any (a : J2) (w : World) :
    Calls Try.prog 44 #[.agg #[.int .i64 a.x.re, .int .i64 a.x.im, .int .i64 a.x.den, .int .i64 a.y.re, .int .i64 a.y.im, .int .i64 a.y.den]] w (fun e w' => e = .returned (.tuple #[.complex .f64 (if jv a = true then wB a.x.re a.x.den else 0) (if jv a = true then wB a.x.im a.x.den else 0), .complex .f64 (if jv a = true then wB a.y.re a.y.den else 0) (if jv a = true then wB a.y.im a.y.den else 0), .bool (jv a)]) ∧ Below w.heap.size w w') := by
  cases h1 : vld a.x
  · skip
    cases h2 : vld a.y
    · skip
      have hv : jv a = false := by unfold jv; rw [h1, h2]; rfl
      have HB : Hid (Below w.heap.size w w) := Below.refl _ _
      go_enter Try.func44, Try.ntmps44
      go_wp2_with (first | ((with_reducible refine wpList_load_mid ?kl71 26 ?kl7x ?kl72 (w.heap.size) 0 ?kl73 [.int .i64 a.x.re, .int .i64 a.x.im, .int .i64 a.x.den, .int .i64 a.y.re, .int .i64 a.y.im, .int .i64 a.y.den] ?kl7d ?kl74 ?kl75 ?kl76 ?kl77 ?kl78); (case kl72 => rfl); (case kl71 => rfl); (case kl73 => rfl); (case kl74 => (exact (rangeAt_new _ _ _))); (case kl75 => exact Try.underlying26); (case kl76 => rfl); (case kl77 => kernel_rfl)))
      refine (sfw_any a.x _).mono ?_
      rintro e w1 ho
      rw [fwR_n h1, fwI_n h1, h1] at ho
      obtain ⟨rfl, hb⟩ : e = .returned (.tuple #[.complex .f64 0 0, .bool false]) ∧ Below _ _ _ := (id ho)
      clear ho
      have HB := Lib.hid (show Below w.heap.size w w1 from HB.out.trans ((show Below _ _ _ from ((Below.refl _ _).alloc (by first | omega | (simp; done) | (simp <;> omega)) _)).trans (hb.mono (by first | omega | (simp <;> omega)))))
      have Ha : Hid (w1.rangeAt (w.heap.size) 0 [.int .i64 a.x.re, .int .i64 a.x.im, .int .i64 a.x.den, .int .i64 a.y.re, .int .i64 a.y.im, .int .i64 a.y.den]) := rangeAt_below (rangeAt_new _ _ _) hb (by first | omega | (simp; done) | (simp <;> omega))
      have hz1 := hb.size
      (try simp at hz1)
      clear hb
      have nA0 : w.heap.size < w1.heap.size := by omega
      have nB0 : ¬ w.heap.size = w1.heap.size := by omega
      have nC0 : ¬ w1.heap.size = w.heap.size := by omega
      have za_0 : w1.cell? ⟨w.heap.size, 0, none⟩ = some (.int .i64 a.x.re) := by have := Ha.out 0 _ rfl; rwa [Nat.zero_add] at this
      have za_1 : w1.cell? ⟨w.heap.size, 1, none⟩ = some (.int .i64 a.x.im) := by have := Ha.out 1 _ rfl; rwa [Nat.zero_add] at this
      have za_2 : w1.cell? ⟨w.heap.size, 2, none⟩ = some (.int .i64 a.x.den) := by have := Ha.out 2 _ rfl; rwa [Nat.zero_add] at this
      have za_3 : w1.cell? ⟨w.heap.size, 3, none⟩ = some (.int .i64 a.y.re) := by have := Ha.out 3 _ rfl; rwa [Nat.zero_add] at this
      have za_4 : w1.cell? ⟨w.heap.size, 4, none⟩ = some (.int .i64 a.y.im) := by have := Ha.out 4 _ rfl; rwa [Nat.zero_add] at this
      have za_5 : w1.cell? ⟨w.heap.size, 5, none⟩ = some (.int .i64 a.y.den) := by have := Ha.out 5 _ rfl; rwa [Nat.zero_add] at this
      go_wp2_with fail
      refine (sfw_any a.y _).mono ?_
      rintro e w2 ho
      rw [fwR_n h2, fwI_n h2, h2] at ho
      obtain ⟨rfl, hb⟩ : e = .returned (.tuple #[.complex .f64 0 0, .bool false]) ∧ Below _ _ _ := (id ho)
      clear ho
      have HB := Lib.hid (show Below w.heap.size w w2 from HB.out.trans ((show Below _ _ _ from (Below.refl _ _)).trans (hb.mono (by first | omega | (simp <;> omega)))))
      have Ha : Hid (w2.rangeAt (w.heap.size) 0 [.int .i64 a.x.re, .int .i64 a.x.im, .int .i64 a.x.den, .int .i64 a.y.re, .int .i64 a.y.im, .int .i64 a.y.den]) := rangeAt_below Ha.out hb (by first | omega | (simp; done) | (simp <;> omega))
      have hz2 := hb.size
      (try simp at hz2)
      clear hb
      have nA0 : w.heap.size < w2.heap.size := by omega
      have nB0 : ¬ w.heap.size = w2.heap.size := by omega
      have nC0 : ¬ w2.heap.size = w.heap.size := by omega
      go_wp2_with fail
      all_goals (refine bodyPost_ret (v := .tuple #[.complex .f64 0 0, .complex .f64 0 0, .bool false]) (by simp [results, Try.results44, go_sem]) rfl ⟨by first | rfl | (rw [hv]; rfl), (by (repeat' first | (with_reducible exact HB.out) | with_reducible refine setCells_below _ _ _ ?_ (by first | omega | (simp <;> omega)) | with_reducible refine Below.setCell ?_ (by show _ ≤ _; first | omega | (simp <;> omega) | simp) _ | with_reducible refine Below.alloc ?_ (by first | omega | (simp <;> omega)) _ | with_reducible apply Below.drew | with_reducible refine below_drewN ?_ _))⟩)
    · skip
      have hv : jv a = false := by unfold jv; rw [h1, h2]; rfl
      have HB : Hid (Below w.heap.size w w) := Below.refl _ _
      go_enter Try.func44, Try.ntmps44
      go_wp2_with (first | ((with_reducible refine wpList_load_mid ?kl81 26 ?kl8x ?kl82 (w.heap.size) 0 ?kl83 [.int .i64 a.x.re, .int .i64 a.x.im, .int .i64 a.x.den, .int .i64 a.y.re, .int .i64 a.y.im, .int .i64 a.y.den] ?kl8d ?kl84 ?kl85 ?kl86 ?kl87 ?kl88); (case kl82 => rfl); (case kl81 => rfl); (case kl83 => rfl); (case kl84 => (exact (rangeAt_new _ _ _))); (case kl85 => exact Try.underlying26); (case kl86 => rfl); (case kl87 => kernel_rfl)))
      refine (sfw_any a.x _).mono ?_
      rintro e w1 ho
      rw [fwR_n h1, fwI_n h1, h1] at ho
      obtain ⟨rfl, hb⟩ : e = .returned (.tuple #[.complex .f64 0 0, .bool false]) ∧ Below _ _ _ := (id ho)
      clear ho
      have HB := Lib.hid (show Below w.heap.size w w1 from HB.out.trans ((show Below _ _ _ from ((Below.refl _ _).alloc (by first | omega | (simp; done) | (simp <;> omega)) _)).trans (hb.mono (by first | omega | (simp <;> omega)))))
      have Ha : Hid (w1.rangeAt (w.heap.size) 0 [.int .i64 a.x.re, .int .i64 a.x.im, .int .i64 a.x.den, .int .i64 a.y.re, .int .i64 a.y.im, .int .i64 a.y.den]) := rangeAt_below (rangeAt_new _ _ _) hb (by first | omega | (simp; done) | (simp <;> omega))
      have hz1 := hb.size
      (try simp at hz1)
      clear hb
      have nA0 : w.heap.size < w1.heap.size := by omega
      have nB0 : ¬ w.heap.size = w1.heap.size := by omega
      have nC0 : ¬ w1.heap.size = w.heap.size := by omega
      have za_0 : w1.cell? ⟨w.heap.size, 0, none⟩ = some (.int .i64 a.x.re) := by have := Ha.out 0 _ rfl; rwa [Nat.zero_add] at this
      have za_1 : w1.cell? ⟨w.heap.size, 1, none⟩ = some (.int .i64 a.x.im) := by have := Ha.out 1 _ rfl; rwa [Nat.zero_add] at this
      have za_2 : w1.cell? ⟨w.heap.size, 2, none⟩ = some (.int .i64 a.x.den) := by have := Ha.out 2 _ rfl; rwa [Nat.zero_add] at this
      have za_3 : w1.cell? ⟨w.heap.size, 3, none⟩ = some (.int .i64 a.y.re) := by have := Ha.out 3 _ rfl; rwa [Nat.zero_add] at this
      have za_4 : w1.cell? ⟨w.heap.size, 4, none⟩ = some (.int .i64 a.y.im) := by have := Ha.out 4 _ rfl; rwa [Nat.zero_add] at this
      have za_5 : w1.cell? ⟨w.heap.size, 5, none⟩ = some (.int .i64 a.y.den) := by have := Ha.out 5 _ rfl; rwa [Nat.zero_add] at this
      go_wp2_with fail
      refine (sfw_any a.y _).mono ?_
      rintro e w2 ho
      rw [fwR_y h2, fwI_y h2, h2] at ho
      obtain ⟨rfl, hb⟩ : e = .returned (.tuple #[.complex .f64 (wB a.y.re a.y.den) (wB a.y.im a.y.den), .bool true]) ∧ Below _ _ _ := (id ho)
      clear ho
      have HB := Lib.hid (show Below w.heap.size w w2 from HB.out.trans ((show Below _ _ _ from (Below.refl _ _)).trans (hb.mono (by first | omega | (simp <;> omega)))))
      have Ha : Hid (w2.rangeAt (w.heap.size) 0 [.int .i64 a.x.re, .int .i64 a.x.im, .int .i64 a.x.den, .int .i64 a.y.re, .int .i64 a.y.im, .int .i64 a.y.den]) := rangeAt_below Ha.out hb (by first | omega | (simp; done) | (simp <;> omega))
      have hz2 := hb.size
      (try simp at hz2)
      clear hb
      have nA0 : w.heap.size < w2.heap.size := by omega
      have nB0 : ¬ w.heap.size = w2.heap.size := by omega
      have nC0 : ¬ w2.heap.size = w.heap.size := by omega
      go_wp2_with fail
      all_goals (refine bodyPost_ret (v := .tuple #[.complex .f64 0 0, .complex .f64 0 0, .bool false]) (by simp [results, Try.results44, go_sem]) rfl ⟨by first | rfl | (rw [hv]; rfl), (by (repeat' first | (with_reducible exact HB.out) | with_reducible refine setCells_below _ _ _ ?_ (by first | omega | (simp <;> omega)) | with_reducible refine Below.setCell ?_ (by show _ ≤ _; first | omega | (simp <;> omega) | simp) _ | with_reducible refine Below.alloc ?_ (by first | omega | (simp <;> omega)) _ | with_reducible apply Below.drew | with_reducible refine below_drewN ?_ _))⟩)
  · skip
    cases h2 : vld a.y
    · skip
      have hv : jv a = false := by unfold jv; rw [h1, h2]; rfl
      have HB : Hid (Below w.heap.size w w) := Below.refl _ _
      go_enter Try.func44, Try.ntmps44
      go_wp2_with (first | ((with_reducible refine wpList_load_mid ?kl91 26 ?kl9x ?kl92 (w.heap.size) 0 ?kl93 [.int .i64 a.x.re, .int .i64 a.x.im, .int .i64 a.x.den, .int .i64 a.y.re, .int .i64 a.y.im, .int .i64 a.y.den] ?kl9d ?kl94 ?kl95 ?kl96 ?kl97 ?kl98); (case kl92 => rfl); (case kl91 => rfl); (case kl93 => rfl); (case kl94 => (exact (rangeAt_new _ _ _))); (case kl95 => exact Try.underlying26); (case kl96 => rfl); (case kl97 => kernel_rfl)))
      refine (sfw_any a.x _).mono ?_
      rintro e w1 ho
      rw [fwR_y h1, fwI_y h1, h1] at ho
      obtain ⟨rfl, hb⟩ : e = .returned (.tuple #[.complex .f64 (wB a.x.re a.x.den) (wB a.x.im a.x.den), .bool true]) ∧ Below _ _ _ := (id ho)
      clear ho
      have HB := Lib.hid (show Below w.heap.size w w1 from HB.out.trans ((show Below _ _ _ from ((Below.refl _ _).alloc (by first | omega | (simp; done) | (simp <;> omega)) _)).trans (hb.mono (by first | omega | (simp <;> omega)))))
      have Ha : Hid (w1.rangeAt (w.heap.size) 0 [.int .i64 a.x.re, .int .i64 a.x.im, .int .i64 a.x.den, .int .i64 a.y.re, .int .i64 a.y.im, .int .i64 a.y.den]) := rangeAt_below (rangeAt_new _ _ _) hb (by first | omega | (simp; done) | (simp <;> omega))
      have hz1 := hb.size
      (try simp at hz1)
      clear hb
      have nA0 : w.heap.size < w1.heap.size := by omega
      have nB0 : ¬ w.heap.size = w1.heap.size := by omega
      have nC0 : ¬ w1.heap.size = w.heap.size := by omega
      have za_0 : w1.cell? ⟨w.heap.size, 0, none⟩ = some (.int .i64 a.x.re) := by have := Ha.out 0 _ rfl; rwa [Nat.zero_add] at this
      have za_1 : w1.cell? ⟨w.heap.size, 1, none⟩ = some (.int .i64 a.x.im) := by have := Ha.out 1 _ rfl; rwa [Nat.zero_add] at this
      have za_2 : w1.cell? ⟨w.heap.size, 2, none⟩ = some (.int .i64 a.x.den) := by have := Ha.out 2 _ rfl; rwa [Nat.zero_add] at this
      have za_3 : w1.cell? ⟨w.heap.size, 3, none⟩ = some (.int .i64 a.y.re) := by have := Ha.out 3 _ rfl; rwa [Nat.zero_add] at this
      have za_4 : w1.cell? ⟨w.heap.size, 4, none⟩ = some (.int .i64 a.y.im) := by have := Ha.out 4 _ rfl; rwa [Nat.zero_add] at this
      have za_5 : w1.cell? ⟨w.heap.size, 5, none⟩ = some (.int .i64 a.y.den) := by have := Ha.out 5 _ rfl; rwa [Nat.zero_add] at this
      go_wp2_with fail
      refine (sfw_any a.y _).mono ?_
      rintro e w2 ho
      rw [fwR_n h2, fwI_n h2, h2] at ho
      obtain ⟨rfl, hb⟩ : e = .returned (.tuple #[.complex .f64 0 0, .bool false]) ∧ Below _ _ _ := (id ho)
      clear ho
      have HB := Lib.hid (show Below w.heap.size w w2 from HB.out.trans ((show Below _ _ _ from (Below.refl _ _)).trans (hb.mono (by first | omega | (simp <;> omega)))))
      have Ha : Hid (w2.rangeAt (w.heap.size) 0 [.int .i64 a.x.re, .int .i64 a.x.im, .int .i64 a.x.den, .int .i64 a.y.re, .int .i64 a.y.im, .int .i64 a.y.den]) := rangeAt_below Ha.out hb (by first | omega | (simp; done) | (simp <;> omega))
      have hz2 := hb.size
      (try simp at hz2)
      clear hb
      have nA0 : w.heap.size < w2.heap.size := by omega
      have nB0 : ¬ w.heap.size = w2.heap.size := by omega
      have nC0 : ¬ w2.heap.size = w.heap.size := by omega
      go_wp2_with fail
      all_goals (refine bodyPost_ret (v := .tuple #[.complex .f64 0 0, .complex .f64 0 0, .bool false]) (by simp [results, Try.results44, go_sem]) rfl ⟨by first | rfl | (rw [hv]; rfl), (by (repeat' first | (with_reducible exact HB.out) | with_reducible refine setCells_below _ _ _ ?_ (by first | omega | (simp <;> omega)) | with_reducible refine Below.setCell ?_ (by show _ ≤ _; first | omega | (simp <;> omega) | simp) _ | with_reducible refine Below.alloc ?_ (by first | omega | (simp <;> omega)) _ | with_reducible apply Below.drew | with_reducible refine below_drewN ?_ _))⟩)
    · skip
      have hv : jv a = true := by unfold jv; rw [h1, h2]; rfl
      have HB : Hid (Below w.heap.size w w) := Below.refl _ _
      go_enter Try.func44, Try.ntmps44
      go_wp2_with (first | ((with_reducible refine wpList_load_mid ?kl101 26 ?kl10x ?kl102 (w.heap.size) 0 ?kl103 [.int .i64 a.x.re, .int .i64 a.x.im, .int .i64 a.x.den, .int .i64 a.y.re, .int .i64 a.y.im, .int .i64 a.y.den] ?kl10d ?kl104 ?kl105 ?kl106 ?kl107 ?kl108); (case kl102 => rfl); (case kl101 => rfl); (case kl103 => rfl); (case kl104 => (exact (rangeAt_new _ _ _))); (case kl105 => exact Try.underlying26); (case kl106 => rfl); (case kl107 => kernel_rfl)))
      refine (sfw_any a.x _).mono ?_
      rintro e w1 ho
      rw [fwR_y h1, fwI_y h1, h1] at ho
      obtain ⟨rfl, hb⟩ : e = .returned (.tuple #[.complex .f64 (wB a.x.re a.x.den) (wB a.x.im a.x.den), .bool true]) ∧ Below _ _ _ := (id ho)
      clear ho
      have HB := Lib.hid (show Below w.heap.size w w1 from HB.out.trans ((show Below _ _ _ from ((Below.refl _ _).alloc (by first | omega | (simp; done) | (simp <;> omega)) _)).trans (hb.mono (by first | omega | (simp <;> omega)))))
      have Ha : Hid (w1.rangeAt (w.heap.size) 0 [.int .i64 a.x.re, .int .i64 a.x.im, .int .i64 a.x.den, .int .i64 a.y.re, .int .i64 a.y.im, .int .i64 a.y.den]) := rangeAt_below (rangeAt_new _ _ _) hb (by first | omega | (simp; done) | (simp <;> omega))
      have hz1 := hb.size
      (try simp at hz1)
      clear hb
      have nA0 : w.heap.size < w1.heap.size := by omega
      have nB0 : ¬ w.heap.size = w1.heap.size := by omega
      have nC0 : ¬ w1.heap.size = w.heap.size := by omega
      have za_0 : w1.cell? ⟨w.heap.size, 0, none⟩ = some (.int .i64 a.x.re) := by have := Ha.out 0 _ rfl; rwa [Nat.zero_add] at this
      have za_1 : w1.cell? ⟨w.heap.size, 1, none⟩ = some (.int .i64 a.x.im) := by have := Ha.out 1 _ rfl; rwa [Nat.zero_add] at this
      have za_2 : w1.cell? ⟨w.heap.size, 2, none⟩ = some (.int .i64 a.x.den) := by have := Ha.out 2 _ rfl; rwa [Nat.zero_add] at this
      have za_3 : w1.cell? ⟨w.heap.size, 3, none⟩ = some (.int .i64 a.y.re) := by have := Ha.out 3 _ rfl; rwa [Nat.zero_add] at this
      have za_4 : w1.cell? ⟨w.heap.size, 4, none⟩ = some (.int .i64 a.y.im) := by have := Ha.out 4 _ rfl; rwa [Nat.zero_add] at this
      have za_5 : w1.cell? ⟨w.heap.size, 5, none⟩ = some (.int .i64 a.y.den) := by have := Ha.out 5 _ rfl; rwa [Nat.zero_add] at this
      go_wp2_with fail
      refine (sfw_any a.y _).mono ?_
      rintro e w2 ho
      rw [fwR_y h2, fwI_y h2, h2] at ho
      obtain ⟨rfl, hb⟩ : e = .returned (.tuple #[.complex .f64 (wB a.y.re a.y.den) (wB a.y.im a.y.den), .bool true]) ∧ Below _ _ _ := (id ho)
      clear ho
      have HB := Lib.hid (show Below w.heap.size w w2 from HB.out.trans ((show Below _ _ _ from (Below.refl _ _)).trans (hb.mono (by first | omega | (simp <;> omega)))))
      have Ha : Hid (w2.rangeAt (w.heap.size) 0 [.int .i64 a.x.re, .int .i64 a.x.im, .int .i64 a.x.den, .int .i64 a.y.re, .int .i64 a.y.im, .int .i64 a.y.den]) := rangeAt_below Ha.out hb (by first | omega | (simp; done) | (simp <;> omega))
      have hz2 := hb.size
      (try simp at hz2)
      clear hb
      have nA0 : w.heap.size < w2.heap.size := by omega
      have nB0 : ¬ w.heap.size = w2.heap.size := by omega
      have nC0 : ¬ w2.heap.size = w.heap.size := by omega
      go_wp2_with fail
      all_goals (refine bodyPost_ret (v := .tuple #[.complex .f64 (wB a.x.re a.x.den) (wB a.x.im a.x.den), .complex .f64 (wB a.y.re a.y.den) (wB a.y.im a.y.den), .bool true]) (by simp [results, Try.results44, go_sem]) rfl ⟨by first | rfl | (rw [hv]; rfl), (by (repeat' first | (with_reducible exact HB.out) | with_reducible refine setCells_below _ _ _ ?_ (by first | omega | (simp <;> omega)) | with_reducible refine Below.setCell ?_ (by show _ ≤ _; first | omega | (simp <;> omega) | simp) _ | with_reducible refine Below.alloc ?_ (by first | omega | (simp <;> omega)) _ | with_reducible apply Below.drew | with_reducible refine below_drewN ?_ _))⟩)
set_option maxRecDepth 100000 in
set_option maxHeartbeats 8000000 in
theorem ifit_any (a : J2) (w : World) :
    Calls Try.prog 17 #[.agg #[.int .i64 a.x.re, .int .i64 a.x.im, .int .i64 a.x.den, .int .i64 a.y.re, .int .i64 a.y.im, .int .i64 a.y.den]] w (fun e w' => e = .returned (.bool (jFit a)) ∧ Below w.heap.size w w') := by
  cases hv : jv a
  · skip
    have HG := Lib.hid (jFit_n hv)
    have HB : Hid (Below w.heap.size w w) := Below.refl _ _
    go_enter Try.func17, Try.ntmps17
    go_wp2_with (first | ((with_reducible refine wpList_load_mid ?kl111 26 ?kl11x ?kl112 (w.heap.size) 0 ?kl113 [.int .i64 a.x.re, .int .i64 a.x.im, .int .i64 a.x.den, .int .i64 a.y.re, .int .i64 a.y.im, .int .i64 a.y.den] ?kl11d ?kl114 ?kl115 ?kl116 ?kl117 ?kl118); (case kl112 => rfl); (case kl111 => rfl); (case kl113 => rfl); (case kl114 => (exact (rangeAt_new _ _ _))); (case kl115 => exact Try.underlying26); (case kl116 => rfl); (case kl117 => kernel_rfl)))
    refine (ijw_any a _).mono ?_
    rintro e w1 ho
    rw [hv] at ho
    obtain ⟨rfl, hb⟩ : e = .returned (.tuple #[.complex .f64 0 0, .complex .f64 0 0, .bool false]) ∧ Below _ _ _ := (id ho)
    clear ho
    have HB := Lib.hid (show Below w.heap.size w w1 from HB.out.trans ((show Below _ _ _ from ((Below.refl _ _).alloc (by first | omega | (simp; done) | (simp <;> omega)) _)).trans (hb.mono (by first | omega | (simp <;> omega)))))
    have Ha : Hid (w1.rangeAt (w.heap.size) 0 [.int .i64 a.x.re, .int .i64 a.x.im, .int .i64 a.x.den, .int .i64 a.y.re, .int .i64 a.y.im, .int .i64 a.y.den]) := rangeAt_below (rangeAt_new _ _ _) hb (by first | omega | (simp; done) | (simp <;> omega))
    have hz1 := hb.size
    (try simp at hz1)
    clear hb
    have nA0 : w.heap.size < w1.heap.size := by omega
    have nB0 : ¬ w.heap.size = w1.heap.size := by omega
    have nC0 : ¬ w1.heap.size = w.heap.size := by omega
    go_wp2_with fail
    go_ret
    exact ⟨by rw [HG.out]; rfl, (by (repeat' first | (with_reducible exact HB.out) | with_reducible refine setCells_below _ _ _ ?_ (by first | omega | (simp <;> omega)) | with_reducible refine Below.setCell ?_ (by show _ ≤ _; first | omega | (simp <;> omega) | simp) _ | with_reducible refine Below.alloc ?_ (by first | omega | (simp <;> omega)) _ | with_reducible apply Below.drew | with_reducible refine below_drewN ?_ _))⟩
  · skip
    obtain ⟨h1, h2⟩ := jv_iff.1 hv
    have hnx : ∀ w, (convert 68 71 (.complex .f64 (wB a.x.re a.x.den) (wB a.x.im a.x.den))).run Try.prog w = .ok (.complex .f32 (nB a.x.re a.x.den) (nB a.x.im a.x.den)) w := fun w => cnv_narrow w h1 _ _ (by rw [Try.underlying68]; rfl) Try.underlying71
    have hwx : ∀ w, (convert 71 68 (.complex .f32 (nB a.x.re a.x.den) (nB a.x.im a.x.den))).run Try.prog w = .ok (.complex .f64 (bB a.x.re a.x.den) (bB a.x.im a.x.den)) w := fun w => cnv_wide w h1 _ _ (by rw [Try.underlying71]; rfl) Try.underlying68
    have hEx : ∀ t w, (binOp .eql t (.complex .f64 (bB a.x.re a.x.den) (bB a.x.im a.x.den)) (.complex .f64 (wB a.x.re a.x.den) (wB a.x.im a.x.den))).run Try.prog w = .ok (.bool (gdC a.x)) w := fun t w => eql_parts w a.x t
    have hny : ∀ w, (convert 68 71 (.complex .f64 (wB a.y.re a.y.den) (wB a.y.im a.y.den))).run Try.prog w = .ok (.complex .f32 (nB a.y.re a.y.den) (nB a.y.im a.y.den)) w := fun w => cnv_narrow w h2 _ _ (by rw [Try.underlying68]; rfl) Try.underlying71
    have hwy : ∀ w, (convert 71 68 (.complex .f32 (nB a.y.re a.y.den) (nB a.y.im a.y.den))).run Try.prog w = .ok (.complex .f64 (bB a.y.re a.y.den) (bB a.y.im a.y.den)) w := fun w => cnv_wide w h2 _ _ (by rw [Try.underlying71]; rfl) Try.underlying68
    have hEy : ∀ t w, (binOp .eql t (.complex .f64 (bB a.y.re a.y.den) (bB a.y.im a.y.den)) (.complex .f64 (wB a.y.re a.y.den) (wB a.y.im a.y.den))).run Try.prog w = .ok (.bool (gdC a.y)) w := fun t w => eql_parts w a.y t
    clear h1 h2
    cases hx : gdC a.x
    · skip
      have HG : Hid (jFit a = false) := by show _ = _; unfold jFit; rw [hv, hx]; rfl
      rw [hx] at hEx
      have HB : Hid (Below w.heap.size w w) := Below.refl _ _
      go_enter Try.func17, Try.ntmps17
      go_wp2_with (first | ((with_reducible refine wpList_load_mid ?kl121 26 ?kl12x ?kl122 (w.heap.size) 0 ?kl123 [.int .i64 a.x.re, .int .i64 a.x.im, .int .i64 a.x.den, .int .i64 a.y.re, .int .i64 a.y.im, .int .i64 a.y.den] ?kl12d ?kl124 ?kl125 ?kl126 ?kl127 ?kl128); (case kl122 => rfl); (case kl121 => rfl); (case kl123 => rfl); (case kl124 => (exact (rangeAt_new _ _ _))); (case kl125 => exact Try.underlying26); (case kl126 => rfl); (case kl127 => kernel_rfl)))
      refine (ijw_any a _).mono ?_
      rintro e w1 ho
      rw [hv] at ho
      obtain ⟨rfl, hb⟩ : e = .returned (.tuple #[.complex .f64 (wB a.x.re a.x.den) (wB a.x.im a.x.den), .complex .f64 (wB a.y.re a.y.den) (wB a.y.im a.y.den), .bool true]) ∧ Below _ _ _ := (id ho)
      clear ho
      have HB := Lib.hid (show Below w.heap.size w w1 from HB.out.trans ((show Below _ _ _ from ((Below.refl _ _).alloc (by first | omega | (simp; done) | (simp <;> omega)) _)).trans (hb.mono (by first | omega | (simp <;> omega)))))
      have Ha : Hid (w1.rangeAt (w.heap.size) 0 [.int .i64 a.x.re, .int .i64 a.x.im, .int .i64 a.x.den, .int .i64 a.y.re, .int .i64 a.y.im, .int .i64 a.y.den]) := rangeAt_below (rangeAt_new _ _ _) hb (by first | omega | (simp; done) | (simp <;> omega))
      have hz1 := hb.size
      (try simp at hz1)
      clear hb
      have nA0 : w.heap.size < w1.heap.size := by omega
      have nB0 : ¬ w.heap.size = w1.heap.size := by omega
      have nC0 : ¬ w1.heap.size = w.heap.size := by omega
      go_wp2_with fail
      go_ret
      exact ⟨by rw [HG.out]; rfl, (by (repeat' first | (with_reducible exact HB.out) | with_reducible refine setCells_below _ _ _ ?_ (by first | omega | (simp <;> omega)) | with_reducible refine Below.setCell ?_ (by show _ ≤ _; first | omega | (simp <;> omega) | simp) _ | with_reducible refine Below.alloc ?_ (by first | omega | (simp <;> omega)) _ | with_reducible apply Below.drew | with_reducible refine below_drewN ?_ _))⟩
    · skip
      have HG : Hid (jFit a = gdC a.y) := by show _ = _; unfold jFit; rw [hv, hx]; rfl
      rw [hx] at hEx
      have HB : Hid (Below w.heap.size w w) := Below.refl _ _
      go_enter Try.func17, Try.ntmps17
      go_wp2_with (first | ((with_reducible refine wpList_load_mid ?kl131 26 ?kl13x ?kl132 (w.heap.size) 0 ?kl133 [.int .i64 a.x.re, .int .i64 a.x.im, .int .i64 a.x.den, .int .i64 a.y.re, .int .i64 a.y.im, .int .i64 a.y.den] ?kl13d ?kl134 ?kl135 ?kl136 ?kl137 ?kl138); (case kl132 => rfl); (case kl131 => rfl); (case kl133 => rfl); (case kl134 => (exact (rangeAt_new _ _ _))); (case kl135 => exact Try.underlying26); (case kl136 => rfl); (case kl137 => kernel_rfl)))
      refine (ijw_any a _).mono ?_
      rintro e w1 ho
      rw [hv] at ho
      obtain ⟨rfl, hb⟩ : e = .returned (.tuple #[.complex .f64 (wB a.x.re a.x.den) (wB a.x.im a.x.den), .complex .f64 (wB a.y.re a.y.den) (wB a.y.im a.y.den), .bool true]) ∧ Below _ _ _ := (id ho)
      clear ho
      have HB := Lib.hid (show Below w.heap.size w w1 from HB.out.trans ((show Below _ _ _ from ((Below.refl _ _).alloc (by first | omega | (simp; done) | (simp <;> omega)) _)).trans (hb.mono (by first | omega | (simp <;> omega)))))
      have Ha : Hid (w1.rangeAt (w.heap.size) 0 [.int .i64 a.x.re, .int .i64 a.x.im, .int .i64 a.x.den, .int .i64 a.y.re, .int .i64 a.y.im, .int .i64 a.y.den]) := rangeAt_below (rangeAt_new _ _ _) hb (by first | omega | (simp; done) | (simp <;> omega))
      have hz1 := hb.size
      (try simp at hz1)
      clear hb
      have nA0 : w.heap.size < w1.heap.size := by omega
      have nB0 : ¬ w.heap.size = w1.heap.size := by omega
      have nC0 : ¬ w1.heap.size = w.heap.size := by omega
      go_wp2_with fail
      go_ret
      exact ⟨by rw [HG.out]; rfl, (by (repeat' first | (with_reducible exact HB.out) | with_reducible refine setCells_below _ _ _ ?_ (by first | omega | (simp <;> omega)) | with_reducible refine Below.setCell ?_ (by show _ ≤ _; first | omega | (simp <;> omega) | simp) _ | with_reducible refine Below.alloc ?_ (by first | omega | (simp <;> omega)) _ | with_reducible apply Below.drew | with_reducible refine below_drewN ?_ _))⟩
set_option maxRecDepth 100000 in
set_option maxHeartbeats 8000000 in
theorem sfit_any (a : J2) (w : World) :
    Calls Try.prog 18 #[.agg #[.int .i64 a.x.re, .int .i64 a.x.im, .int .i64 a.x.den, .int .i64 a.y.re, .int .i64 a.y.im, .int .i64 a.y.den]] w (fun e w' => e = .returned (.bool (jFit a)) ∧ Below w.heap.size w w') := by
  cases hv : jv a
  · skip
    have HG := Lib.hid (jFit_n hv)
    have HB : Hid (Below w.heap.size w w) := Below.refl _ _
    go_enter Try.func18, Try.ntmps18
    go_wp2_with (first | ((with_reducible refine wpList_load_mid ?kl141 26 ?kl14x ?kl142 (w.heap.size) 0 ?kl143 [.int .i64 a.x.re, .int .i64 a.x.im, .int .i64 a.x.den, .int .i64 a.y.re, .int .i64 a.y.im, .int .i64 a.y.den] ?kl14d ?kl144 ?kl145 ?kl146 ?kl147 ?kl148); (case kl142 => rfl); (case kl141 => rfl); (case kl143 => rfl); (case kl144 => (exact (rangeAt_new _ _ _))); (case kl145 => exact Try.underlying26); (case kl146 => rfl); (case kl147 => kernel_rfl)))
    refine (sjw_any a _).mono ?_
    rintro e w1 ho
    rw [hv] at ho
    obtain ⟨rfl, hb⟩ : e = .returned (.tuple #[.complex .f64 0 0, .complex .f64 0 0, .bool false]) ∧ Below _ _ _ := (id ho)
    clear ho
    have HB := Lib.hid (show Below w.heap.size w w1 from HB.out.trans ((show Below _ _ _ from ((Below.refl _ _).alloc (by first | omega | (simp; done) | (simp <;> omega)) _)).trans (hb.mono (by first | omega | (simp <;> omega)))))
    have Ha : Hid (w1.rangeAt (w.heap.size) 0 [.int .i64 a.x.re, .int .i64 a.x.im, .int .i64 a.x.den, .int .i64 a.y.re, .int .i64 a.y.im, .int .i64 a.y.den]) := rangeAt_below (rangeAt_new _ _ _) hb (by first | omega | (simp; done) | (simp <;> omega))
    have hz1 := hb.size
    (try simp at hz1)
    clear hb
    have nA0 : w.heap.size < w1.heap.size := by omega
    have nB0 : ¬ w.heap.size = w1.heap.size := by omega
    have nC0 : ¬ w1.heap.size = w.heap.size := by omega
    go_wp2_with fail
    go_ret
    exact ⟨by rw [HG.out]; rfl, (by (repeat' first | (with_reducible exact HB.out) | with_reducible refine setCells_below _ _ _ ?_ (by first | omega | (simp <;> omega)) | with_reducible refine Below.setCell ?_ (by show _ ≤ _; first | omega | (simp <;> omega) | simp) _ | with_reducible refine Below.alloc ?_ (by first | omega | (simp <;> omega)) _ | with_reducible apply Below.drew | with_reducible refine below_drewN ?_ _))⟩
  · skip
    obtain ⟨h1, h2⟩ := jv_iff.1 hv
    have hnx : ∀ w, (convert 68 71 (.complex .f64 (wB a.x.re a.x.den) (wB a.x.im a.x.den))).run Try.prog w = .ok (.complex .f32 (nB a.x.re a.x.den) (nB a.x.im a.x.den)) w := fun w => cnv_narrow w h1 _ _ (by rw [Try.underlying68]; rfl) Try.underlying71
    have hwx : ∀ w, (convert 71 68 (.complex .f32 (nB a.x.re a.x.den) (nB a.x.im a.x.den))).run Try.prog w = .ok (.complex .f64 (bB a.x.re a.x.den) (bB a.x.im a.x.den)) w := fun w => cnv_wide w h1 _ _ (by rw [Try.underlying71]; rfl) Try.underlying68
    have hEx : ∀ t w, (binOp .eql t (.complex .f64 (bB a.x.re a.x.den) (bB a.x.im a.x.den)) (.complex .f64 (wB a.x.re a.x.den) (wB a.x.im a.x.den))).run Try.prog w = .ok (.bool (gdC a.x)) w := fun t w => eql_parts w a.x t
    have hny : ∀ w, (convert 68 71 (.complex .f64 (wB a.y.re a.y.den) (wB a.y.im a.y.den))).run Try.prog w = .ok (.complex .f32 (nB a.y.re a.y.den) (nB a.y.im a.y.den)) w := fun w => cnv_narrow w h2 _ _ (by rw [Try.underlying68]; rfl) Try.underlying71
    have hwy : ∀ w, (convert 71 68 (.complex .f32 (nB a.y.re a.y.den) (nB a.y.im a.y.den))).run Try.prog w = .ok (.complex .f64 (bB a.y.re a.y.den) (bB a.y.im a.y.den)) w := fun w => cnv_wide w h2 _ _ (by rw [Try.underlying71]; rfl) Try.underlying68
    have hEy : ∀ t w, (binOp .eql t (.complex .f64 (bB a.y.re a.y.den) (bB a.y.im a.y.den)) (.complex .f64 (wB a.y.re a.y.den) (wB a.y.im a.y.den))).run Try.prog w = .ok (.bool (gdC a.y)) w := fun t w => eql_parts w a.y t
    clear h1 h2
    cases hx : gdC a.x
    · skip
      have HG : Hid (jFit a = false) := by show _ = _; unfold jFit; rw [hv, hx]; rfl
      rw [hx] at hEx
      have HB : Hid (Below w.heap.size w w) := Below.refl _ _
      go_enter Try.func18, Try.ntmps18
      go_wp2_with (first | ((with_reducible refine wpList_load_mid ?kl151 26 ?kl15x ?kl152 (w.heap.size) 0 ?kl153 [.int .i64 a.x.re, .int .i64 a.x.im, .int .i64 a.x.den, .int .i64 a.y.re, .int .i64 a.y.im, .int .i64 a.y.den] ?kl15d ?kl154 ?kl155 ?kl156 ?kl157 ?kl158); (case kl152 => rfl); (case kl151 => rfl); (case kl153 => rfl); (case kl154 => (exact (rangeAt_new _ _ _))); (case kl155 => exact Try.underlying26); (case kl156 => rfl); (case kl157 => kernel_rfl)))
      refine (sjw_any a _).mono ?_
      rintro e w1 ho
      rw [hv] at ho
      obtain ⟨rfl, hb⟩ : e = .returned (.tuple #[.complex .f64 (wB a.x.re a.x.den) (wB a.x.im a.x.den), .complex .f64 (wB a.y.re a.y.den) (wB a.y.im a.y.den), .bool true]) ∧ Below _ _ _ := (id ho)
      clear ho
      have HB := Lib.hid (show Below w.heap.size w w1 from HB.out.trans ((show Below _ _ _ from ((Below.refl _ _).alloc (by first | omega | (simp; done) | (simp <;> omega)) _)).trans (hb.mono (by first | omega | (simp <;> omega)))))
      have Ha : Hid (w1.rangeAt (w.heap.size) 0 [.int .i64 a.x.re, .int .i64 a.x.im, .int .i64 a.x.den, .int .i64 a.y.re, .int .i64 a.y.im, .int .i64 a.y.den]) := rangeAt_below (rangeAt_new _ _ _) hb (by first | omega | (simp; done) | (simp <;> omega))
      have hz1 := hb.size
      (try simp at hz1)
      clear hb
      have nA0 : w.heap.size < w1.heap.size := by omega
      have nB0 : ¬ w.heap.size = w1.heap.size := by omega
      have nC0 : ¬ w1.heap.size = w.heap.size := by omega
      go_wp2_with fail
      go_ret
      exact ⟨by rw [HG.out]; rfl, (by (repeat' first | (with_reducible exact HB.out) | with_reducible refine setCells_below _ _ _ ?_ (by first | omega | (simp <;> omega)) | with_reducible refine Below.setCell ?_ (by show _ ≤ _; first | omega | (simp <;> omega) | simp) _ | with_reducible refine Below.alloc ?_ (by first | omega | (simp <;> omega)) _ | with_reducible apply Below.drew | with_reducible refine below_drewN ?_ _))⟩
    · skip
      have HG : Hid (jFit a = gdC a.y) := by show _ = _; unfold jFit; rw [hv, hx]; rfl
      rw [hx] at hEx
      have HB : Hid (Below w.heap.size w w) := Below.refl _ _
      go_enter Try.func18, Try.ntmps18
      go_wp2_with (first | ((with_reducible refine wpList_load_mid ?kl161 26 ?kl16x ?kl162 (w.heap.size) 0 ?kl163 [.int .i64 a.x.re, .int .i64 a.x.im, .int .i64 a.x.den, .int .i64 a.y.re, .int .i64 a.y.im, .int .i64 a.y.den] ?kl16d ?kl164 ?kl165 ?kl166 ?kl167 ?kl168); (case kl162 => rfl); (case kl161 => rfl); (case kl163 => rfl); (case kl164 => (exact (rangeAt_new _ _ _))); (case kl165 => exact Try.underlying26); (case kl166 => rfl); (case kl167 => kernel_rfl)))
      refine (sjw_any a _).mono ?_
      rintro e w1 ho
      rw [hv] at ho
      obtain ⟨rfl, hb⟩ : e = .returned (.tuple #[.complex .f64 (wB a.x.re a.x.den) (wB a.x.im a.x.den), .complex .f64 (wB a.y.re a.y.den) (wB a.y.im a.y.den), .bool true]) ∧ Below _ _ _ := (id ho)
      clear ho
      have HB := Lib.hid (show Below w.heap.size w w1 from HB.out.trans ((show Below _ _ _ from ((Below.refl _ _).alloc (by first | omega | (simp; done) | (simp <;> omega)) _)).trans (hb.mono (by first | omega | (simp <;> omega)))))
      have Ha : Hid (w1.rangeAt (w.heap.size) 0 [.int .i64 a.x.re, .int .i64 a.x.im, .int .i64 a.x.den, .int .i64 a.y.re, .int .i64 a.y.im, .int .i64 a.y.den]) := rangeAt_below (rangeAt_new _ _ _) hb (by first | omega | (simp; done) | (simp <;> omega))
      have hz1 := hb.size
      (try simp at hz1)
      clear hb
      have nA0 : w.heap.size < w1.heap.size := by omega
      have nB0 : ¬ w.heap.size = w1.heap.size := by omega
      have nC0 : ¬ w1.heap.size = w.heap.size := by omega
      go_wp2_with fail
      go_ret
      exact ⟨by rw [HG.out]; rfl, (by (repeat' first | (with_reducible exact HB.out) | with_reducible refine setCells_below _ _ _ ?_ (by first | omega | (simp <;> omega)) | with_reducible refine Below.setCell ?_ (by show _ ≤ _; first | omega | (simp <;> omega) | simp) _ | with_reducible refine Below.alloc ?_ (by first | omega | (simp <;> omega)) _ | with_reducible apply Below.drew | with_reducible refine below_drewN ?_ _))⟩
end Go.Proofs.Ytamdjgehmmogjaa
