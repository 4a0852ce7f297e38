/- Contracts and plain facts: what lies across a vector. -/
import Derived.Test.YtamdjgehmmogjaaQM
import Derived.Test.YtamdjgehmmogjaaJ3
import Derived.Test.YtamdjgehmmogjaaFW
import Derived.Test.YtamdjgehmmogjaaL1
set_option maxRecDepth 100000
namespace Go.Proofs.Ytamdjgehmmogjaa
open Go.RowKit Pol

def cX (a : Fr) : Fr := ⟨-a.re, a.im, a.den⟩
def jCrV (a : J2) : J2 := ⟨cX a.y, fConj a.x⟩
def jCr (a : J2) : J2 × Bool := if jv a = true then (jCrV a, true) else (j2z, false)
def jCrS (a : J2) : J2 × Bool := if ((fMirror a.x).2 && (fMirror a.y).2) = true then (⟨⟨-(fMirror a.y).1.re, -(fMirror a.y).1.im, (fMirror a.y).1.den⟩, (fMirror a.x).1⟩, true) else (j2z, false)
theorem jCrS_eq (a : J2) : jCrS a = jCr a := by
  unfold jCrS jCr
  rw [fMirror_snd, fMirror_snd]
  show (if jv a = true then _ else _) = _
  split
  · next h =>
    obtain ⟨h1, h2⟩ := jv_iff.1 h
    rw [mirror_y h1, mirror_y h2]
    unfold jCrV cX fConj
    simp
  · rfl
theorem cX_vld (a : Fr) : vld (cX a) = vld a := vld_back a
theorem jCr_v {a : J2} (h : jv a = true) : jv (jCrV a) = true := by
  obtain ⟨h1, h2⟩ := jv_iff.1 h
  exact jv_iff.2 ⟨(cX_vld _).trans h2, (conj_vld _).trans h1⟩
theorem cX_power (a : Fr) : fPower (cX a) = fPower a := by
  unfold fPower
  rw [cX_vld]
  show (if vld a = true then low (-a.re * -a.re + a.im * a.im) 0 (a.den * a.den) else (fz, false)) = _
  rw [Int.neg_mul_neg]
theorem fAdd_comm' (a b : Fr) : fAdd a b = fAdd b a := by
  unfold fAdd
  rw [Bool.and_comm (vld a), Int.add_comm (a.re * b.den), Int.add_comm (a.im * b.den), Int.mul_comm a.den b.den]
theorem jPow_cr (a : J2) : jPow (jCrV a) = jPow a := by
  unfold jPow
  show (if ((fPower (cX a.y)).2 && (fPower (fConj a.x)).2) = true then fAdd (fPower (cX a.y)).1 (fPower (fConj a.x)).1 else (fz, false)) = _
  rw [cX_power, power_conj, Bool.and_comm, fAdd_comm']
def jNeg (a : J2) : J2 := ⟨fNeg a.x, fNeg a.y⟩
theorem jCr_2 (a : J2) : jCrV (jCrV a) = jNeg a := by
  unfold jCrV cX fConj jNeg fNeg; simp
def fM1 : Fr := ⟨-1, 0, 1⟩
theorem times_m1 {a : Fr} (h : vld a = true) : fTimes a fM1 = (fNeg a, true) := by
  have v1 : vld fM1 = true := by decide
  have a1 : rv fM1 = -1 := by show ((-1 : Int) : Rat) / ((1 : Int) : Rat) = -1; grind
  have a2 : iv fM1 = 0 := by show ((0 : Int) : Rat) / ((1 : Int) : Rat) = 0; grind
  have n1 : rv (fNeg a) = - rv a := by
    show ((-a.re : Int) : Rat) / (a.den : Rat) = -((a.re : Rat) / (a.den : Rat))
    rw [Rat.intCast_neg, Rat.div_def, Rat.div_def, Rat.neg_mul]
  have n2 : iv (fNeg a) = - iv a := by
    show ((-a.im : Int) : Rat) / (a.den : Rat) = -((a.im : Rat) / (a.den : Rat))
    rw [Rat.intCast_neg, Rat.div_def, Rat.div_def, Rat.neg_mul]
  exact fTimes_ok.2 ⟨h, v1, (vld_neg a).trans h, by rw [n1, a1, a2]; grind, by rw [n2, a1, a2]; grind⟩
theorem jTim_m1 {a : J2} (h : jv a = true) : jTim a fM1 = (jNeg a, true) := by
  obtain ⟨h1, h2⟩ := jv_iff.1 h
  unfold jTim j2of
  rw [times_m1 h1, times_m1 h2]; rfl
theorem jIn_no {a b : J2} (h : (jIn a b).2 = false) : jIn a b = (fz, false) := by
  unfold jIn at h ⊢
  split
  · next hh => rw [if_pos hh] at h; exact fIn_no _ _ _ _ h
  · rfl
theorem jIn_cr {a : J2} {X : Fr} (h : jIn a (jCrV a) = (X, true)) : X = f0 := by
  unfold jIn at h
  split at h
  · next hh =>
    simp only [Bool.and_eq_true, fMirror_snd] at hh
    rw [mirror_y hh.1, mirror_y hh.2] at h
    unfold fIn at h
    split at h
    · next h2 =>
      simp only [Bool.and_eq_true] at h2
      obtain ⟨-, -, -, r1, i1⟩ := fTimes_ok.1 (pair_t h2.1)
      obtain ⟨-, -, -, r2, i2⟩ := fTimes_ok.1 (pair_t h2.2)
      obtain ⟨-, -, v, r, i⟩ := fAdd_ok.1 h
      have n1 : rv (fConj (jCrV a).x) = - rv a.y := by
        show ((-a.y.re : Int) : Rat) / (a.y.den : Rat) = -((a.y.re : Rat) / (a.y.den : Rat))
        rw [Rat.intCast_neg, Rat.div_def, Rat.div_def, Rat.neg_mul]
      have n2 : iv (fConj (jCrV a).x) = - iv a.y := by rw [conj_iv]; rfl
      have n3 : fConj (jCrV a).y = a.x := conj_conj a.x
      refine val_inj v vld_f0 ?_ ?_
      · rw [r, r1, r2, rv_f0, n1, n2, n3]; grind
      · rw [i, i1, i2, iv_f0, n1, n2, n3]; grind
    · cases h
  · cases h
set_option maxRecDepth 100000 in
set_option maxHeartbeats 8000000 in
theorem icross_any (a : J2) (w : World) :
    Calls Try.prog 8 #[.agg #[.int .i64 a.x.re, .int .i64 a.x.im, .int .i64 a.x.den, .int .i64 a.y.re, .int .i64 a.y.im, .int .i64 a.y.den]] w (J2Out (jCr a) w) := by
  cases hv : jv a
  · skip
    have HG : Hid (jCr a = (j2z, false)) := by show _ = _; unfold jCr; rw [hv]; rfl
    have HB : Hid (Below w.heap.size w w) := Below.refl _ _
    go_enter Try.func8, Try.ntmps8
    go_wp2_with (first | ((with_reducible refine wpList_load_mid ?kl11 26 ?kl1x ?kl12 (w.heap.size) 0 ?kl13 [.int .i64 a.x.re, .int .i64 a.x.im, .int .i64 a.x.den, .int .i64 a.y.re, .int .i64 a.y.im, .int .i64 a.y.den] ?kl1d ?kl14 ?kl15 ?kl16 ?kl17 ?kl18); (case kl12 => rfl); (case kl11 => rfl); (case kl13 => rfl); (case kl14 => (exact (World.rangeAt_alloc (rangeAt_new _ _ _) _))); (case kl15 => exact Try.underlying26); (case kl16 => rfl); (case kl17 => kernel_rfl)))
    refine (ijv_any a _).mono ?_
    rintro e w1 ho
    rw [hv] at ho
    obtain ⟨rfl, hb⟩ : e = .returned (.bool false) ∧ Below _ _ _ := (id ho)
    clear ho
    have HB := Lib.hid (show Below w.heap.size w w1 from HB.out.trans ((show Below _ _ _ from (((Below.refl _ _).alloc (by first | omega | (simp; done) | (simp <;> omega)) _).alloc (by first | omega | (simp; done) | (simp <;> omega)) _)).trans (hb.mono (by first | omega | (simp <;> omega)))))
    have Ha : Hid (w1.rangeAt (w.heap.size) 0 [.int .i64 a.x.re, .int .i64 a.x.im, .int .i64 a.x.den, .int .i64 a.y.re, .int .i64 a.y.im, .int .i64 a.y.den]) := rangeAt_below (World.rangeAt_alloc (rangeAt_new _ _ _) _) hb (by first | omega | (simp; done) | (simp <;> omega))
    have HR := Lib.hid ((show Room _ (w.heap.size + 1) 2 from (Room.new' (by simp) rfl)).below hb (by first | omega | (simp <;> omega)))
    have hz1 := hb.size
    (try simp at hz1)
    clear hb
    have nA0 : w.heap.size < w1.heap.size := by omega
    have nB0 : ¬ w.heap.size = w1.heap.size := by omega
    have nC0 : ¬ w1.heap.size = w.heap.size := by omega
    have nA1 : w.heap.size + 1 < w1.heap.size := by omega
    have nB1 : ¬ w.heap.size + 1 = w1.heap.size := by omega
    have nC1 : ¬ w1.heap.size = w.heap.size + 1 := by omega
    have hth := (show Room w1 (w.heap.size + 1) 2 from HR.out).there
    go_wp2_with (first | ((with_reducible refine wpList_store_mid ?kl21 26 ?kl2x ?kl2y ?kl22 (w.heap.size + 1) 0 #[.int .i64 0, .int .i64 0, .int .i64 0, .int .i64 0, .int .i64 0, .int .i64 0] ?kl23 ?kl24 ?kl25 ?kl26 ?kl27 ?kl28); (case kl22 => rfl); (case kl21 => rfl); (case kl23 => rfl); (case kl24 => rfl); (case kl25 => exact hth); (case kl26 => kernel_rfl); (case kl27 => exact (by simp [Value.oneCell']))))
    refine bodyPost_ret (v := .tuple #[.agg #[.int .i64 0, .int .i64 0, .int .i64 0, .int .i64 0, .int .i64 0, .int .i64 0], .bool false]) ?_ rfl (J2Out.no HG.out ?_)
    · exact Eq.trans (results_cell_mid2 Try.results8 _ _ (w.heap.size + 1) [.int .i64 0, .int .i64 0, .int .i64 0, .int .i64 0, .int .i64 0, .int .i64 0] _ (by rfl) (World.rangeAt_setCells_same _ (w.heap.size + 1) 0 [.int .i64 0, .int .i64 0, .int .i64 0, .int .i64 0, .int .i64 0, .int .i64 0] hth) Try.underlying26 rfl (by kernel_rfl)) rfl
    · (repeat' first | (with_reducible exact HB.out) | with_reducible refine setCells_below _ _ _ ?_ (by first | omega | (simp <;> omega)) | with_reducible refine Below.setCell ?_ (by show _ ≤ _; first | omega | (simp <;> omega) | simp) _ | with_reducible refine Below.alloc ?_ (by first | omega | (simp <;> omega)) _ | with_reducible apply Below.drew | with_reducible refine below_drewN ?_ _)
  · skip
    have HG : Hid (jCr a = (jCrV a, true)) := by show _ = _; unfold jCr; rw [hv]; rfl
    obtain ⟨h1, h2⟩ := jv_iff.1 hv
    obtain ⟨⟨b1, b2⟩, ⟨b3, b4⟩, -, -⟩ := (vld_iff _).1 h1
    obtain ⟨⟨c1, c2⟩, ⟨c3, c4⟩, -, -⟩ := (vld_iff _).1 h2
    clear h1 h2
    have HB : Hid (Below w.heap.size w w) := Below.refl _ _
    go_enter Try.func8, Try.ntmps8
    go_wp2_with (first | ((with_reducible refine wpList_load_mid ?kl31 26 ?kl3x ?kl32 (w.heap.size) 0 ?kl33 [.int .i64 a.x.re, .int .i64 a.x.im, .int .i64 a.x.den, .int .i64 a.y.re, .int .i64 a.y.im, .int .i64 a.y.den] ?kl3d ?kl34 ?kl35 ?kl36 ?kl37 ?kl38); (case kl32 => rfl); (case kl31 => rfl); (case kl33 => rfl); (case kl34 => (exact (World.rangeAt_alloc (rangeAt_new _ _ _) _))); (case kl35 => exact Try.underlying26); (case kl36 => rfl); (case kl37 => kernel_rfl)))
    refine (ijv_any a _).mono ?_
    rintro e w1 ho
    rw [hv] at ho
    obtain ⟨rfl, hb⟩ : e = .returned (.bool true) ∧ Below _ _ _ := (id ho)
    clear ho
    have HB := Lib.hid (show Below w.heap.size w w1 from HB.out.trans ((show Below _ _ _ from (((Below.refl _ _).alloc (by first | omega | (simp; done) | (simp <;> omega)) _).alloc (by first | omega | (simp; done) | (simp <;> omega)) _)).trans (hb.mono (by first | omega | (simp <;> omega)))))
    have Ha : Hid (w1.rangeAt (w.heap.size) 0 [.int .i64 a.x.re, .int .i64 a.x.im, .int .i64 a.x.den, .int .i64 a.y.re, .int .i64 a.y.im, .int .i64 a.y.den]) := rangeAt_below (World.rangeAt_alloc (rangeAt_new _ _ _) _) hb (by first | omega | (simp; done) | (simp <;> omega))
    have HR := Lib.hid ((show Room _ (w.heap.size + 1) 2 from (Room.new' (by simp) rfl)).below hb (by first | omega | (simp <;> omega)))
    have hz1 := hb.size
    (try simp at hz1)
    clear hb
    have nA0 : w.heap.size < w1.heap.size := by omega
    have nB0 : ¬ w.heap.size = w1.heap.size := by omega
    have nC0 : ¬ w1.heap.size = w.heap.size := by omega
    have nA1 : w.heap.size + 1 < w1.heap.size := by omega
    have nB1 : ¬ w.heap.size + 1 = w1.heap.size := by omega
    have nC1 : ¬ w1.heap.size = w.heap.size + 1 := by omega
    have za_0 : w1.cell? ⟨w.heap.size, 0, none⟩ = some (.int .i64 a.x.re) := by have := Ha.out 0 _ rfl; rwa [Nat.zero_add] at this
    have za_1 : w1.cell? ⟨w.heap.size, 1, none⟩ = some (.int .i64 a.x.im) := by have := Ha.out 1 _ rfl; rwa [Nat.zero_add] at this
    have za_2 : w1.cell? ⟨w.heap.size, 2, none⟩ = some (.int .i64 a.x.den) := by have := Ha.out 2 _ rfl; rwa [Nat.zero_add] at this
    have za_3 : w1.cell? ⟨w.heap.size, 3, none⟩ = some (.int .i64 a.y.re) := by have := Ha.out 3 _ rfl; rwa [Nat.zero_add] at this
    have za_4 : w1.cell? ⟨w.heap.size, 4, none⟩ = some (.int .i64 a.y.im) := by have := Ha.out 4 _ rfl; rwa [Nat.zero_add] at this
    have za_5 : w1.cell? ⟨w.heap.size, 5, none⟩ = some (.int .i64 a.y.den) := by have := Ha.out 5 _ rfl; rwa [Nat.zero_add] at this
    have hth := (show Room w1 (w.heap.size + 1) 2 from HR.out).there
    go_wp2_with (first | ((with_reducible refine wpList_store_mid ?kl41 26 ?kl4x ?kl4y ?kl42 (w.heap.size + 1) 0 #[.int .i64 (-a.y.re), .int .i64 a.y.im, .int .i64 a.y.den, .int .i64 a.x.re, .int .i64 (-a.x.im), .int .i64 a.x.den] ?kl43 ?kl44 ?kl45 ?kl46 ?kl47 ?kl48); (case kl42 => rfl); (case kl41 => rfl); (case kl43 => rfl); (case kl44 => rfl); (case kl45 => exact hth); (case kl46 => kernel_rfl); (case kl47 => exact (by simp [Value.oneCell']))))
    refine bodyPost_ret (v := .tuple #[.agg #[.int .i64 (-a.y.re), .int .i64 a.y.im, .int .i64 a.y.den, .int .i64 a.x.re, .int .i64 (-a.x.im), .int .i64 a.x.den], .bool true]) ?_ rfl (J2Out.yes (f := jCrV a) (by rw [HG.out]) (by rw [HG.out]) ?_)
    · exact Eq.trans (results_cell_mid2 Try.results8 _ _ (w.heap.size + 1) [.int .i64 (-a.y.re), .int .i64 a.y.im, .int .i64 a.y.den, .int .i64 a.x.re, .int .i64 (-a.x.im), .int .i64 a.x.den] _ (by rfl) (World.rangeAt_setCells_same _ (w.heap.size + 1) 0 [.int .i64 (-a.y.re), .int .i64 a.y.im, .int .i64 a.y.den, .int .i64 a.x.re, .int .i64 (-a.x.im), .int .i64 a.x.den] hth) Try.underlying26 rfl (by kernel_rfl)) rfl
    · (repeat' first | (with_reducible exact HB.out) | with_reducible refine setCells_below _ _ _ ?_ (by first | omega | (simp <;> omega)) | with_reducible refine Below.setCell ?_ (by show _ ≤ _; first | omega | (simp <;> omega) | simp) _ | with_reducible refine Below.alloc ?_ (by first | omega | (simp <;> omega)) _ | with_reducible apply Below.drew | with_reducible refine below_drewN ?_ _)
set_option maxRecDepth 100000 in
set_option maxHeartbeats 8000000 in
theorem scross0_any (a : J2) (w : World) :
    Calls Try.prog 9 #[.agg #[.int .i64 a.x.re, .int .i64 a.x.im, .int .i64 a.x.den, .int .i64 a.y.re, .int .i64 a.y.im, .int .i64 a.y.den]] w (J2Out (jCrS a) w) := by
  cases hx : vld a.x
  · skip
    have HX : Hid (fMirror a.x = (fz, false)) := by show _ = _; unfold fMirror; rw [hx]; rfl
    have HG : Hid (jCrS a = (j2z, false)) := by show _ = _; unfold jCrS; rw [HX.out]; rfl
    have HB : Hid (Below w.heap.size w w) := Below.refl _ _
    go_enter Try.func9, Try.ntmps9
    go_wp2_with (first | ((with_reducible refine wpList_load_mid ?kl51 26 ?kl5x ?kl52 (w.heap.size) 0 ?kl53 [.int .i64 a.x.re, .int .i64 a.x.im, .int .i64 a.x.den, .int .i64 a.y.re, .int .i64 a.y.im, .int .i64 a.y.den] ?kl5d ?kl54 ?kl55 ?kl56 ?kl57 ?kl58); (case kl52 => rfl); (case kl51 => rfl); (case kl53 => rfl); (case kl54 => (exact (World.rangeAt_alloc (rangeAt_new _ _ _) _))); (case kl55 => exact Try.underlying26); (case kl56 => rfl); (case kl57 => kernel_rfl)))
    refine (spmirror_fr a.x _).mono ?_
    rintro e w1 ho
    rw [HX.out] at ho
    obtain ⟨rfl, hb⟩ : e = .returned (.tuple #[.agg #[.int .i64 fz.re, .int .i64 fz.im, .int .i64 fz.den], .bool false]) ∧ Below _ _ _ := ho.fn
    clear ho
    have HB := Lib.hid (show Below w.heap.size w w1 from HB.out.trans ((show Below _ _ _ from (((Below.refl _ _).alloc (by first | omega | (simp; done) | (simp <;> omega)) _).alloc (by first | omega | (simp; done) | (simp <;> omega)) _)).trans (hb.mono (by first | omega | (simp <;> omega)))))
    have Ha : Hid (w1.rangeAt (w.heap.size) 0 [.int .i64 a.x.re, .int .i64 a.x.im, .int .i64 a.x.den, .int .i64 a.y.re, .int .i64 a.y.im, .int .i64 a.y.den]) := rangeAt_below (World.rangeAt_alloc (rangeAt_new _ _ _) _) hb (by first | omega | (simp; done) | (simp <;> omega))
    have HR := Lib.hid ((show Room _ (w.heap.size + 1) 2 from (Room.new' (by simp) rfl)).below hb (by first | omega | (simp <;> omega)))
    have hz1 := hb.size
    (try simp at hz1)
    clear hb
    have nA0 : w.heap.size < w1.heap.size := by omega
    have nB0 : ¬ w.heap.size = w1.heap.size := by omega
    have nC0 : ¬ w1.heap.size = w.heap.size := by omega
    have nA1 : w.heap.size + 1 < w1.heap.size := by omega
    have nB1 : ¬ w.heap.size + 1 = w1.heap.size := by omega
    have nC1 : ¬ w1.heap.size = w.heap.size + 1 := by omega
    have za_0 : w1.cell? ⟨w.heap.size, 0, none⟩ = some (.int .i64 a.x.re) := by have := Ha.out 0 _ rfl; rwa [Nat.zero_add] at this
    have za_1 : w1.cell? ⟨w.heap.size, 1, none⟩ = some (.int .i64 a.x.im) := by have := Ha.out 1 _ rfl; rwa [Nat.zero_add] at this
    have za_2 : w1.cell? ⟨w.heap.size, 2, none⟩ = some (.int .i64 a.x.den) := by have := Ha.out 2 _ rfl; rwa [Nat.zero_add] at this
    have za_3 : w1.cell? ⟨w.heap.size, 3, none⟩ = some (.int .i64 a.y.re) := by have := Ha.out 3 _ rfl; rwa [Nat.zero_add] at this
    have za_4 : w1.cell? ⟨w.heap.size, 4, none⟩ = some (.int .i64 a.y.im) := by have := Ha.out 4 _ rfl; rwa [Nat.zero_add] at this
    have za_5 : w1.cell? ⟨w.heap.size, 5, none⟩ = some (.int .i64 a.y.den) := by have := Ha.out 5 _ rfl; rwa [Nat.zero_add] at this
    go_wp2_with fail
    refine (spmirror_fr a.y _).mono ?_
    rintro e w2 ho
    obtain ⟨rfl, hb⟩ : e = .returned (.tuple #[.agg #[.int .i64 (fMirror a.y).1.re, .int .i64 (fMirror a.y).1.im, .int .i64 (fMirror a.y).1.den], .bool (fMirror a.y).2]) ∧ Below _ _ _ := ho.fn
    clear ho
    have HB := Lib.hid (show Below w.heap.size w w2 from HB.out.trans ((show Below _ _ _ from ((Below.refl _ _).alloc (by first | omega | (simp; done) | (simp <;> omega)) _)).trans (hb.mono (by first | omega | (simp <;> omega)))))
    have Ha : Hid (w2.rangeAt (w.heap.size) 0 [.int .i64 a.x.re, .int .i64 a.x.im, .int .i64 a.x.den, .int .i64 a.y.re, .int .i64 a.y.im, .int .i64 a.y.den]) := rangeAt_below (World.rangeAt_alloc Ha.out _) hb (by first | omega | (simp; done) | (simp <;> omega))
    have HR := Lib.hid ((show Room _ (w.heap.size + 1) 2 from (HR.out.alloc (by first | omega | (simp; done) | (simp <;> omega)) _)).below hb (by first | omega | (simp <;> omega)))
    have Hx : Hid (w2.rangeAt (w1.heap.size) 0 [.int .i64 fz.re, .int .i64 fz.im, .int .i64 fz.den]) := rangeAt_below (rangeAt_new _ _ _) hb (by first | omega | (simp; done) | (simp <;> omega))
    have hz2 := hb.size
    (try simp at hz2)
    clear hb
    have nA0 : w.heap.size < w2.heap.size := by omega
    have nB0 : ¬ w.heap.size = w2.heap.size := by omega
    have nC0 : ¬ w2.heap.size = w.heap.size := by omega
    have nA2 : w1.heap.size < w2.heap.size := by omega
    have nB2 : ¬ w1.heap.size = w2.heap.size := by omega
    have nC2 : ¬ w2.heap.size = w1.heap.size := by omega
    have nA1 : w.heap.size + 1 < w2.heap.size := by omega
    have nB1 : ¬ w.heap.size + 1 = w2.heap.size := by omega
    have nC1 : ¬ w2.heap.size = w.heap.size + 1 := by omega
    have hth := (show Room (w2.alloc (.cells #[.int .i64 (fMirror a.y).1.re, .int .i64 (fMirror a.y).1.im, .int .i64 (fMirror a.y).1.den] 24)) (w.heap.size + 1) 2 from (HR.out.alloc (by first | omega | (simp; done) | (simp <;> omega)) _)).there
    go_wp2_with (first | ((with_reducible refine wpList_store_mid ?kl61 26 ?kl6x ?kl6y ?kl62 (w.heap.size + 1) 0 #[.int .i64 0, .int .i64 0, .int .i64 0, .int .i64 0, .int .i64 0, .int .i64 0] ?kl63 ?kl64 ?kl65 ?kl66 ?kl67 ?kl68); (case kl62 => rfl); (case kl61 => rfl); (case kl63 => rfl); (case kl64 => rfl); (case kl65 => exact hth); (case kl66 => kernel_rfl); (case kl67 => exact (by simp [Value.oneCell']))))
    refine bodyPost_ret (v := .tuple #[.agg #[.int .i64 0, .int .i64 0, .int .i64 0, .int .i64 0, .int .i64 0, .int .i64 0], .bool false]) ?_ rfl (J2Out.no HG.out ?_)
    · exact Eq.trans (results_cell_mid2 Try.results9 _ _ (w.heap.size + 1) [.int .i64 0, .int .i64 0, .int .i64 0, .int .i64 0, .int .i64 0, .int .i64 0] _ (by rfl) (World.rangeAt_setCells_same _ (w.heap.size + 1) 0 [.int .i64 0, .int .i64 0, .int .i64 0, .int .i64 0, .int .i64 0, .int .i64 0] hth) Try.underlying26 rfl (by kernel_rfl)) rfl
    · (repeat' first | (with_reducible exact HB.out) | with_reducible refine setCells_below _ _ _ ?_ (by first | omega | (simp <;> omega)) | with_reducible refine Below.setCell ?_ (by show _ ≤ _; first | omega | (simp <;> omega) | simp) _ | with_reducible refine Below.alloc ?_ (by first | omega | (simp <;> omega)) _ | with_reducible apply Below.drew | with_reducible refine below_drewN ?_ _)
  · skip
    have HX : Hid (fMirror a.x = (fConj a.x, true)) := mirror_y hx
    cases hy : vld a.y
    · skip
      have HY : Hid (fMirror a.y = (fz, false)) := by show _ = _; unfold fMirror; rw [hy]; rfl
      have HG : Hid (jCrS a = (j2z, false)) := by show _ = _; unfold jCrS; rw [HX.out, HY.out]; rfl
      have HB : Hid (Below w.heap.size w w) := Below.refl _ _
      go_enter Try.func9, Try.ntmps9
      go_wp2_with (first | ((with_reducible refine wpList_load_mid ?kl71 26 ?kl7x ?kl72 (w.heap.size) 0 ?kl73 [.int .i64 a.x.re, .int .i64 a.x.im, .int .i64 a.x.den, .int .i64 a.y.re, .int .i64 a.y.im, .int .i64 a.y.den] ?kl7d ?kl74 ?kl75 ?kl76 ?kl77 ?kl78); (case kl72 => rfl); (case kl71 => rfl); (case kl73 => rfl); (case kl74 => (exact (World.rangeAt_alloc (rangeAt_new _ _ _) _))); (case kl75 => exact Try.underlying26); (case kl76 => rfl); (case kl77 => kernel_rfl)))
      refine (spmirror_fr a.x _).mono ?_
      rintro e w1 ho
      rw [HX.out] at ho
      obtain ⟨rfl, hb⟩ : e = .returned (.tuple #[.agg #[.int .i64 (fConj a.x).re, .int .i64 (fConj a.x).im, .int .i64 (fConj a.x).den], .bool true]) ∧ Below _ _ _ := ho.fn
      clear ho
      have HB := Lib.hid (show Below w.heap.size w w1 from HB.out.trans ((show Below _ _ _ from (((Below.refl _ _).alloc (by first | omega | (simp; done) | (simp <;> omega)) _).alloc (by first | omega | (simp; done) | (simp <;> omega)) _)).trans (hb.mono (by first | omega | (simp <;> omega)))))
      have Ha : Hid (w1.rangeAt (w.heap.size) 0 [.int .i64 a.x.re, .int .i64 a.x.im, .int .i64 a.x.den, .int .i64 a.y.re, .int .i64 a.y.im, .int .i64 a.y.den]) := rangeAt_below (World.rangeAt_alloc (rangeAt_new _ _ _) _) hb (by first | omega | (simp; done) | (simp <;> omega))
      have HR := Lib.hid ((show Room _ (w.heap.size + 1) 2 from (Room.new' (by simp) rfl)).below hb (by first | omega | (simp <;> omega)))
      have hz1 := hb.size
      (try simp at hz1)
      clear hb
      have nA0 : w.heap.size < w1.heap.size := by omega
      have nB0 : ¬ w.heap.size = w1.heap.size := by omega
      have nC0 : ¬ w1.heap.size = w.heap.size := by omega
      have nA1 : w.heap.size + 1 < w1.heap.size := by omega
      have nB1 : ¬ w.heap.size + 1 = w1.heap.size := by omega
      have nC1 : ¬ w1.heap.size = w.heap.size + 1 := by omega
      have za_0 : w1.cell? ⟨w.heap.size, 0, none⟩ = some (.int .i64 a.x.re) := by have := Ha.out 0 _ rfl; rwa [Nat.zero_add] at this
      have za_1 : w1.cell? ⟨w.heap.size, 1, none⟩ = some (.int .i64 a.x.im) := by have := Ha.out 1 _ rfl; rwa [Nat.zero_add] at this
      have za_2 : w1.cell? ⟨w.heap.size, 2, none⟩ = some (.int .i64 a.x.den) := by have := Ha.out 2 _ rfl; rwa [Nat.zero_add] at this
      have za_3 : w1.cell? ⟨w.heap.size, 3, none⟩ = some (.int .i64 a.y.re) := by have := Ha.out 3 _ rfl; rwa [Nat.zero_add] at this
      have za_4 : w1.cell? ⟨w.heap.size, 4, none⟩ = some (.int .i64 a.y.im) := by have := Ha.out 4 _ rfl; rwa [Nat.zero_add] at this
      have za_5 : w1.cell? ⟨w.heap.size, 5, none⟩ = some (.int .i64 a.y.den) := by have := Ha.out 5 _ rfl; rwa [Nat.zero_add] at this
      go_wp2_with fail
      refine (spmirror_fr a.y _).mono ?_
      rintro e w2 ho
      rw [HY.out] at ho
      obtain ⟨rfl, hb⟩ : e = .returned (.tuple #[.agg #[.int .i64 fz.re, .int .i64 fz.im, .int .i64 fz.den], .bool false]) ∧ Below _ _ _ := ho.fn
      clear ho
      have HB := Lib.hid (show Below w.heap.size w w2 from HB.out.trans ((show Below _ _ _ from ((Below.refl _ _).alloc (by first | omega | (simp; done) | (simp <;> omega)) _)).trans (hb.mono (by first | omega | (simp <;> omega)))))
      have Ha : Hid (w2.rangeAt (w.heap.size) 0 [.int .i64 a.x.re, .int .i64 a.x.im, .int .i64 a.x.den, .int .i64 a.y.re, .int .i64 a.y.im, .int .i64 a.y.den]) := rangeAt_below (World.rangeAt_alloc Ha.out _) hb (by first | omega | (simp; done) | (simp <;> omega))
      have HR := Lib.hid ((show Room _ (w.heap.size + 1) 2 from (HR.out.alloc (by first | omega | (simp; done) | (simp <;> omega)) _)).below hb (by first | omega | (simp <;> omega)))
      have Hx : Hid (w2.rangeAt (w1.heap.size) 0 [.int .i64 (fConj a.x).re, .int .i64 (fConj a.x).im, .int .i64 (fConj a.x).den]) := rangeAt_below (rangeAt_new _ _ _) hb (by first | omega | (simp; done) | (simp <;> omega))
      have hz2 := hb.size
      (try simp at hz2)
      clear hb
      have nA0 : w.heap.size < w2.heap.size := by omega
      have nB0 : ¬ w.heap.size = w2.heap.size := by omega
      have nC0 : ¬ w2.heap.size = w.heap.size := by omega
      have nA2 : w1.heap.size < w2.heap.size := by omega
      have nB2 : ¬ w1.heap.size = w2.heap.size := by omega
      have nC2 : ¬ w2.heap.size = w1.heap.size := by omega
      have nA1 : w.heap.size + 1 < w2.heap.size := by omega
      have nB1 : ¬ w.heap.size + 1 = w2.heap.size := by omega
      have nC1 : ¬ w2.heap.size = w.heap.size + 1 := by omega
      have hth := (show Room (w2.alloc (.cells #[.int .i64 fz.re, .int .i64 fz.im, .int .i64 fz.den] 24)) (w.heap.size + 1) 2 from (HR.out.alloc (by first | omega | (simp; done) | (simp <;> omega)) _)).there
      go_wp2_with (first | ((with_reducible refine wpList_store_mid ?kl81 26 ?kl8x ?kl8y ?kl82 (w.heap.size + 1) 0 #[.int .i64 0, .int .i64 0, .int .i64 0, .int .i64 0, .int .i64 0, .int .i64 0] ?kl83 ?kl84 ?kl85 ?kl86 ?kl87 ?kl88); (case kl82 => rfl); (case kl81 => rfl); (case kl83 => rfl); (case kl84 => rfl); (case kl85 => exact hth); (case kl86 => kernel_rfl); (case kl87 => exact (by simp [Value.oneCell']))))
      refine bodyPost_ret (v := .tuple #[.agg #[.int .i64 0, .int .i64 0, .int .i64 0, .int .i64 0, .int .i64 0, .int .i64 0], .bool false]) ?_ rfl (J2Out.no HG.out ?_)
      · exact Eq.trans (results_cell_mid2 Try.results9 _ _ (w.heap.size + 1) [.int .i64 0, .int .i64 0, .int .i64 0, .int .i64 0, .int .i64 0, .int .i64 0] _ (by rfl) (World.rangeAt_setCells_same _ (w.heap.size + 1) 0 [.int .i64 0, .int .i64 0, .int .i64 0, .int .i64 0, .int .i64 0, .int .i64 0] hth) Try.underlying26 rfl (by kernel_rfl)) rfl
      · (repeat' first | (with_reducible exact HB.out) | with_reducible refine setCells_below _ _ _ ?_ (by first | omega | (simp <;> omega)) | with_reducible refine Below.setCell ?_ (by show _ ≤ _; first | omega | (simp <;> omega) | simp) _ | with_reducible refine Below.alloc ?_ (by first | omega | (simp <;> omega)) _ | with_reducible apply Below.drew | with_reducible refine below_drewN ?_ _)
    · skip
      have HY : Hid (fMirror a.y = (fConj a.y, true)) := mirror_y hy
      have HG : Hid (jCrS a = (⟨⟨-(fConj a.y).re, -(fConj a.y).im, (fConj a.y).den⟩, fConj a.x⟩, true)) := by show _ = _; unfold jCrS; rw [HX.out, HY.out]; rfl
      obtain ⟨⟨b1, b2⟩, ⟨b3, b4⟩, -, -⟩ := (vld_iff _).1 ((conj_vld _).trans hy)
      clear hx hy
      have HB : Hid (Below w.heap.size w w) := Below.refl _ _
      go_enter Try.func9, Try.ntmps9
      go_wp2_with (first | ((with_reducible refine wpList_load_mid ?kl91 26 ?kl9x ?kl92 (w.heap.size) 0 ?kl93 [.int .i64 a.x.re, .int .i64 a.x.im, .int .i64 a.x.den, .int .i64 a.y.re, .int .i64 a.y.im, .int .i64 a.y.den] ?kl9d ?kl94 ?kl95 ?kl96 ?kl97 ?kl98); (case kl92 => rfl); (case kl91 => rfl); (case kl93 => rfl); (case kl94 => (exact (World.rangeAt_alloc (rangeAt_new _ _ _) _))); (case kl95 => exact Try.underlying26); (case kl96 => rfl); (case kl97 => kernel_rfl)))
      refine (spmirror_fr a.x _).mono ?_
      rintro e w1 ho
      rw [HX.out] at ho
      obtain ⟨rfl, hb⟩ : e = .returned (.tuple #[.agg #[.int .i64 (fConj a.x).re, .int .i64 (fConj a.x).im, .int .i64 (fConj a.x).den], .bool true]) ∧ Below _ _ _ := ho.fn
      clear ho
      have HB := Lib.hid (show Below w.heap.size w w1 from HB.out.trans ((show Below _ _ _ from (((Below.refl _ _).alloc (by first | omega | (simp; done) | (simp <;> omega)) _).alloc (by first | omega | (simp; done) | (simp <;> omega)) _)).trans (hb.mono (by first | omega | (simp <;> omega)))))
      have Ha : Hid (w1.rangeAt (w.heap.size) 0 [.int .i64 a.x.re, .int .i64 a.x.im, .int .i64 a.x.den, .int .i64 a.y.re, .int .i64 a.y.im, .int .i64 a.y.den]) := rangeAt_below (World.rangeAt_alloc (rangeAt_new _ _ _) _) hb (by first | omega | (simp; done) | (simp <;> omega))
      have HR := Lib.hid ((show Room _ (w.heap.size + 1) 2 from (Room.new' (by simp) rfl)).below hb (by first | omega | (simp <;> omega)))
      have hz1 := hb.size
      (try simp at hz1)
      clear hb
      have nA0 : w.heap.size < w1.heap.size := by omega
      have nB0 : ¬ w.heap.size = w1.heap.size := by omega
      have nC0 : ¬ w1.heap.size = w.heap.size := by omega
      have nA1 : w.heap.size + 1 < w1.heap.size := by omega
      have nB1 : ¬ w.heap.size + 1 = w1.heap.size := by omega
      have nC1 : ¬ w1.heap.size = w.heap.size + 1 := by omega
      have za_0 : w1.cell? ⟨w.heap.size, 0, none⟩ = some (.int .i64 a.x.re) := by have := Ha.out 0 _ rfl; rwa [Nat.zero_add] at this
      have za_1 : w1.cell? ⟨w.heap.size, 1, none⟩ = some (.int .i64 a.x.im) := by have := Ha.out 1 _ rfl; rwa [Nat.zero_add] at this
      have za_2 : w1.cell? ⟨w.heap.size, 2, none⟩ = some (.int .i64 a.x.den) := by have := Ha.out 2 _ rfl; rwa [Nat.zero_add] at this
      have za_3 : w1.cell? ⟨w.heap.size, 3, none⟩ = some (.int .i64 a.y.re) := by have := Ha.out 3 _ rfl; rwa [Nat.zero_add] at this
      have za_4 : w1.cell? ⟨w.heap.size, 4, none⟩ = some (.int .i64 a.y.im) := by have := Ha.out 4 _ rfl; rwa [Nat.zero_add] at this
      have za_5 : w1.cell? ⟨w.heap.size, 5, none⟩ = some (.int .i64 a.y.den) := by have := Ha.out 5 _ rfl; rwa [Nat.zero_add] at this
      go_wp2_with fail
      refine (spmirror_fr a.y _).mono ?_
      rintro e w2 ho
      rw [HY.out] at ho
      obtain ⟨rfl, hb⟩ : e = .returned (.tuple #[.agg #[.int .i64 (fConj a.y).re, .int .i64 (fConj a.y).im, .int .i64 (fConj a.y).den], .bool true]) ∧ Below _ _ _ := ho.fn
      clear ho
      have HB := Lib.hid (show Below w.heap.size w w2 from HB.out.trans ((show Below _ _ _ from ((Below.refl _ _).alloc (by first | omega | (simp; done) | (simp <;> omega)) _)).trans (hb.mono (by first | omega | (simp <;> omega)))))
      have Ha : Hid (w2.rangeAt (w.heap.size) 0 [.int .i64 a.x.re, .int .i64 a.x.im, .int .i64 a.x.den, .int .i64 a.y.re, .int .i64 a.y.im, .int .i64 a.y.den]) := rangeAt_below (World.rangeAt_alloc Ha.out _) hb (by first | omega | (simp; done) | (simp <;> omega))
      have HR := Lib.hid ((show Room _ (w.heap.size + 1) 2 from (HR.out.alloc (by first | omega | (simp; done) | (simp <;> omega)) _)).below hb (by first | omega | (simp <;> omega)))
      have Hx : Hid (w2.rangeAt (w1.heap.size) 0 [.int .i64 (fConj a.x).re, .int .i64 (fConj a.x).im, .int .i64 (fConj a.x).den]) := rangeAt_below (rangeAt_new _ _ _) hb (by first | omega | (simp; done) | (simp <;> omega))
      have hz2 := hb.size
      (try simp at hz2)
      clear hb
      have nA0 : w.heap.size < w2.heap.size := by omega
      have nB0 : ¬ w.heap.size = w2.heap.size := by omega
      have nC0 : ¬ w2.heap.size = w.heap.size := by omega
      have nA2 : w1.heap.size < w2.heap.size := by omega
      have nB2 : ¬ w1.heap.size = w2.heap.size := by omega
      have nC2 : ¬ w2.heap.size = w1.heap.size := by omega
      have nA1 : w.heap.size + 1 < w2.heap.size := by omega
      have nB1 : ¬ w.heap.size + 1 = w2.heap.size := by omega
      have nC1 : ¬ w2.heap.size = w.heap.size + 1 := by omega
      have zx_0 : w2.cell? ⟨w1.heap.size, 0, none⟩ = some (.int .i64 (fConj a.x).re) := by have := Hx.out 0 _ rfl; rwa [Nat.zero_add] at this
      have zx_1 : w2.cell? ⟨w1.heap.size, 1, none⟩ = some (.int .i64 (fConj a.x).im) := by have := Hx.out 1 _ rfl; rwa [Nat.zero_add] at this
      have zx_2 : w2.cell? ⟨w1.heap.size, 2, none⟩ = some (.int .i64 (fConj a.x).den) := by have := Hx.out 2 _ rfl; rwa [Nat.zero_add] at this
      have hth := (show Room (w2.alloc (.cells #[.int .i64 (fConj a.y).re, .int .i64 (fConj a.y).im, .int .i64 (fConj a.y).den] 24)) (w.heap.size + 1) 2 from (HR.out.alloc (by first | omega | (simp; done) | (simp <;> omega)) _)).there
      go_wp2_with (first | ((with_reducible refine wpList_store_mid ?kl101 26 ?kl10x ?kl10y ?kl102 (w.heap.size + 1) 0 #[.int .i64 (-(fConj a.y).re), .int .i64 (-(fConj a.y).im), .int .i64 (fConj a.y).den, .int .i64 (fConj a.x).re, .int .i64 (fConj a.x).im, .int .i64 (fConj a.x).den] ?kl103 ?kl104 ?kl105 ?kl106 ?kl107 ?kl108); (case kl102 => rfl); (case kl101 => rfl); (case kl103 => rfl); (case kl104 => rfl); (case kl105 => exact hth); (case kl106 => kernel_rfl); (case kl107 => exact (by simp [Value.oneCell']))))
      refine bodyPost_ret (v := .tuple #[.agg #[.int .i64 (-(fConj a.y).re), .int .i64 (-(fConj a.y).im), .int .i64 (fConj a.y).den, .int .i64 (fConj a.x).re, .int .i64 (fConj a.x).im, .int .i64 (fConj a.x).den], .bool true]) ?_ rfl (J2Out.yes (f := ⟨⟨-(fConj a.y).re, -(fConj a.y).im, (fConj a.y).den⟩, fConj a.x⟩) (by rw [HG.out]) (by rw [HG.out]) ?_)
      · exact Eq.trans (results_cell_mid2 Try.results9 _ _ (w.heap.size + 1) [.int .i64 (-(fConj a.y).re), .int .i64 (-(fConj a.y).im), .int .i64 (fConj a.y).den, .int .i64 (fConj a.x).re, .int .i64 (fConj a.x).im, .int .i64 (fConj a.x).den] _ (by rfl) (World.rangeAt_setCells_same _ (w.heap.size + 1) 0 [.int .i64 (-(fConj a.y).re), .int .i64 (-(fConj a.y).im), .int .i64 (fConj a.y).den, .int .i64 (fConj a.x).re, .int .i64 (fConj a.x).im, .int .i64 (fConj a.x).den] hth) Try.underlying26 rfl (by kernel_rfl)) rfl
      · (repeat' first | (with_reducible exact HB.out) | with_reducible refine setCells_below _ _ _ ?_ (by first | omega | (simp <;> omega)) | with_reducible refine Below.setCell ?_ (by show _ ≤ _; first | omega | (simp <;> omega) | simp) _ | with_reducible refine Below.alloc ?_ (by first | omega | (simp <;> omega)) _ | with_reducible apply Below.drew | with_reducible refine below_drewN ?_ _)
theorem scross_any (a : J2) (w : World) : Calls Try.prog 9 #[.agg #[.int .i64 a.x.re, .int .i64 a.x.im, .int .i64 a.x.den, .int .i64 a.y.re, .int .i64 a.y.im, .int .i64 a.y.den]] w (J2Out (jCr a) w) := jCrS_eq a ▸ scross0_any a w
end Go.Proofs.Ytamdjgehmmogjaa
