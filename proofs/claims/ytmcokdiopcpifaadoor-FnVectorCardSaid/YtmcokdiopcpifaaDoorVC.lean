/- Contracts: the vector of pure light, both sides. -/
import Derived.Test.YtmcokdiopcpifaaDoorQV
import Derived.Test.YtmcokdiopcpifaaDoorFW
import Derived.Test.YtmcokdiopcpifaaDoorSG
import Derived.Test.YtmcokdiopcpifaaDoorL1
import Derived.BigQuiet
import Derived.Deep.RegionHeld3
set_option maxRecDepth 100000
namespace Go.Proofs.YtmcokdiopcpifaaDoor
open Go.RowKit Pol

theorem BoxAt.of4 {W : World} {X : Nat} {m : M4} (h : W.rangeAt X 0 [.int .i64 m.a.re, .int .i64 m.a.im, .int .i64 m.a.den, .int .i64 m.b.re, .int .i64 m.b.im, .int .i64 m.b.den, .int .i64 m.c.re, .int .i64 m.c.im, .int .i64 m.c.den, .int .i64 m.d.re, .int .i64 m.d.im, .int .i64 m.d.den]) : BoxAt W X m.get 4 := fun k hk => by
  have e : k = 0 ∨ k = 1 ∨ k = 2 ∨ k = 3 := by omega
  rcases e with rfl | rfl | rfl | rfl
  · exact ⟨by have := h 0 _ rfl; rwa [Nat.zero_add] at this, by have := h 1 _ rfl; rwa [Nat.zero_add] at this, by have := h 2 _ rfl; rwa [Nat.zero_add] at this⟩
  · exact ⟨by have := h 3 _ rfl; rwa [Nat.zero_add] at this, by have := h 4 _ rfl; rwa [Nat.zero_add] at this, by have := h 5 _ rfl; rwa [Nat.zero_add] at this⟩
  · exact ⟨by have := h 6 _ rfl; rwa [Nat.zero_add] at this, by have := h 7 _ rfl; rwa [Nat.zero_add] at this, by have := h 8 _ rfl; rwa [Nat.zero_add] at this⟩
  · exact ⟨by have := h 9 _ rfl; rwa [Nat.zero_add] at this, by have := h 10 _ rfl; rwa [Nat.zero_add] at this, by have := h 11 _ rfl; rwa [Nat.zero_add] at this⟩
theorem gVecS_1 {a : M4} (h : gPure a = false) : gVecS a = (j2z, false) := by unfold gVecS; rw [h]; rfl
theorem gVecS_2 {a : M4} (h : (a.a.re == 0) = true) : gVecS a = (j2z, false) := by unfold gVecS; rw [h]; simp
theorem gVecS_3 {a : M4} {x t u y : Fr} {p q r ok : Bool} (h : gPure a = true) (hz : (a.a.re == 0) = false) (hx : fAdd a.a a.b = (x, p)) (ht : low (2 * a.a.re) 0 a.a.den = (t, q)) (hu : fTimes a.d pNi = (u, r)) (hy : fAdd a.c u = (y, ok)) :
    gVecS a = if (p && q && r) = true then (if (x.re == 0) = true then (⟨f0, t⟩, true) else (if ok = true then (⟨x, y⟩, true) else (j2z, false))) else (j2z, false) := by
  unfold gVecS; rw [h, hz, hx, ht, hu]; simp only [hy, Bool.not_false, Bool.and_self, if_true]
theorem gVec_1 {a : M4} (h : gPure a = false) : gVec a = (j2z, false) := by unfold gVec; rw [h]; rfl
theorem gVec_2 {a : M4} (h : m4B a mZ = true) : gVec a = (j2z, false) := by unfold gVec; rw [h]; simp
theorem gVec_3 {a : M4} {x : Fr} {p : Bool} (h : gPure a = true) (hz : m4B a mZ = false) (hx : fAdd a.a a.b = (x, p)) :
    gVec a = if p = true then (if frB x f0 = true then (⟨f0, (fTimes f2' a.a).1⟩, true) else (if (fLess a.c (fTimes a.d pI).1).2 = true then (⟨x, (fLess a.c (fTimes a.d pI).1).1⟩, true) else (j2z, false))) else (j2z, false) := by
  unfold gVec; rw [h, hz, hx]; simp only [Bool.not_false, Bool.and_self, if_true]
set_option maxRecDepth 100000 in
set_option maxHeartbeats 16000000 in
theorem svec_any (a : M4) (w : World) :
    Calls Tryd.prog 24 #[.agg #[.int .i64 a.a.re, .int .i64 a.a.im, .int .i64 a.a.den, .int .i64 a.b.re, .int .i64 a.b.im, .int .i64 a.b.den, .int .i64 a.c.re, .int .i64 a.c.im, .int .i64 a.c.den, .int .i64 a.d.re, .int .i64 a.d.im, .int .i64 a.d.den]] w (J2Out (gVecS a) w) := by
  cases hp : gPure a
  · skip
    have HG := Lib.hid (gVecS_1 hp)
    have HB : Hid (Below w.heap.size w w) := Below.refl _ _
    go_enter Tryd.func24, Tryd.ntmps24
    go_wp2_with (first | ((with_reducible refine wpList_load_mid ?kl11 51 ?kl1x ?kl12 (w.heap.size) 0 ?kl13 [.int .i64 a.a.re, .int .i64 a.a.im, .int .i64 a.a.den, .int .i64 a.b.re, .int .i64 a.b.im, .int .i64 a.b.den, .int .i64 a.c.re, .int .i64 a.c.im, .int .i64 a.c.den, .int .i64 a.d.re, .int .i64 a.d.im, .int .i64 a.d.den] ?kl1d ?kl14 ?kl15 ?kl16 ?kl17 ?kl18); (case kl12 => rfl); (case kl11 => rfl); (case kl13 => rfl); (case kl14 => (exact (World.rangeAt_alloc (rangeAt_new _ _ _) _))); (case kl15 => exact Tryd.underlying51); (case kl16 => rfl); (case kl17 => kernel_rfl)))
    refine (spure_any a _).mono ?_
    rintro e w1 ho
    rw [hp] at ho
    obtain ⟨rfl, hb⟩ : e = .returned (.bool false) ∧ Below _ _ _ := (id ho)
    clear ho
    have HB := Lib.hid (show Below w.heap.size w w1 from HB.out.trans ((show Below _ _ _ from (((Below.refl _ _).alloc (by first | omega | (simp; done) | (simp <;> omega)) _).alloc (by first | omega | (simp; done) | (simp <;> omega)) _)).trans (hb.mono (by first | omega | (simp <;> omega)))))
    have Ha : Hid (w1.rangeAt (w.heap.size) 0 [.int .i64 a.a.re, .int .i64 a.a.im, .int .i64 a.a.den, .int .i64 a.b.re, .int .i64 a.b.im, .int .i64 a.b.den, .int .i64 a.c.re, .int .i64 a.c.im, .int .i64 a.c.den, .int .i64 a.d.re, .int .i64 a.d.im, .int .i64 a.d.den]) := rangeAt_below (World.rangeAt_alloc (rangeAt_new _ _ _) _) hb (by first | omega | (simp; done) | (simp <;> omega))
    have HR := Lib.hid ((show Room _ (w.heap.size + 1) 2 from (Room.new' (by simp) rfl)).below hb (by first | omega | (simp <;> omega)))
    have hz1 := hb.size
    (try simp at hz1)
    clear hb
    have nA0 : w.heap.size < w1.heap.size := by omega
    have nB0 : ¬ w.heap.size = w1.heap.size := by omega
    have nC0 : ¬ w1.heap.size = w.heap.size := by omega
    have nA1 : w.heap.size + 1 < w1.heap.size := by omega
    have nB1 : ¬ w.heap.size + 1 = w1.heap.size := by omega
    have nC1 : ¬ w1.heap.size = w.heap.size + 1 := by omega
    have hth := (show Room w1 (w.heap.size + 1) 2 from HR.out).there
    go_wp2_with (first | ((with_reducible refine wpList_store_mid ?kl21 47 ?kl2x ?kl2y ?kl22 (w.heap.size + 1) 0 #[.int .i64 0, .int .i64 0, .int .i64 0, .int .i64 0, .int .i64 0, .int .i64 0] ?kl23 ?kl24 ?kl25 ?kl26 ?kl27 ?kl28); (case kl22 => rfl); (case kl21 => rfl); (case kl23 => rfl); (case kl24 => rfl); (case kl25 => exact hth); (case kl26 => kernel_rfl); (case kl27 => exact (by simp [Value.oneCell']))))
    refine bodyPost_ret (v := .tuple #[.agg #[.int .i64 0, .int .i64 0, .int .i64 0, .int .i64 0, .int .i64 0, .int .i64 0], .bool false]) ?_ rfl (J2Out.no HG.out ?_)
    · exact Eq.trans (results_cell_mid2 Tryd.results24 _ _ (w.heap.size + 1) [.int .i64 0, .int .i64 0, .int .i64 0, .int .i64 0, .int .i64 0, .int .i64 0] _ (by rfl) (World.rangeAt_setCells_same _ (w.heap.size + 1) 0 [.int .i64 0, .int .i64 0, .int .i64 0, .int .i64 0, .int .i64 0, .int .i64 0] hth) Tryd.underlying47 rfl (by kernel_rfl)) rfl
    · (repeat' first | (with_reducible exact HB.out) | with_reducible refine setCells_below _ _ _ ?_ (by first | omega | (simp <;> omega)) | with_reducible refine Below.setCell ?_ (by show _ ≤ _; first | omega | (simp <;> omega) | simp) _ | with_reducible refine Below.alloc ?_ (by first | omega | (simp <;> omega)) _ | with_reducible apply Below.drew | with_reducible refine below_drewN ?_ _)
  · skip
    cases hz : (a.a.re == 0)
    · skip
      obtain ⟨hr, ht2, -, -⟩ := pure_parts hp
      obtain ⟨ra, rb, rc, rd⟩ := all4_iff.1 hr
      obtain ⟨⟨k0, k1⟩, -, ⟨k2, k3⟩, -⟩ := (vld_iff _).1 (realB_iff.1 ra).1
      obtain ⟨x, p, hx⟩ : ∃ x p, fAdd a.a a.b = (x, p) := ⟨_, _, rfl⟩
      obtain ⟨t, ht⟩ : ∃ t, t = (low (2 * a.a.re) 0 a.a.den).1 := ⟨_, rfl⟩
      have hT : low (2 * a.a.re) 0 a.a.den = (t, true) := by rw [ht]; exact (twice_ok ra ht2).1
      obtain ⟨u, hu0⟩ : ∃ u, u = fNeg ⟨-a.d.im, a.d.re, a.d.den⟩ := ⟨_, rfl⟩
      have hU : fTimes a.d pNi = (u, true) := by rw [hu0]; exact turn_n (realB_iff.1 rd).1
      obtain ⟨y, ok, hy⟩ : ∃ y ok, fAdd a.c u = (y, ok) := ⟨_, _, rfl⟩
      have hg := Lib.hid (gVecS_3 hp hz hx hT hU hy)
      have HP := Lib.hid hp
      have HX := Lib.hid hx
      have HT := Lib.hid hT
      have HU := Lib.hid hU
      have HY := Lib.hid hy
      have hzz : ¬ a.a.re = 0 := by simpa using hz
      clear hr ht2 ra rb rc rd hx ht hT hu0 hU hy hp hz
      have HB : Hid (Below w.heap.size w w) := Below.refl _ _
      go_enter Tryd.func24, Tryd.ntmps24
      go_wp2_with (first | ((with_reducible refine wpList_load_mid ?kl31 51 ?kl3x ?kl32 (w.heap.size) 0 ?kl33 [.int .i64 a.a.re, .int .i64 a.a.im, .int .i64 a.a.den, .int .i64 a.b.re, .int .i64 a.b.im, .int .i64 a.b.den, .int .i64 a.c.re, .int .i64 a.c.im, .int .i64 a.c.den, .int .i64 a.d.re, .int .i64 a.d.im, .int .i64 a.d.den] ?kl3d ?kl34 ?kl35 ?kl36 ?kl37 ?kl38); (case kl32 => rfl); (case kl31 => rfl); (case kl33 => rfl); (case kl34 => (exact (World.rangeAt_alloc (rangeAt_new _ _ _) _))); (case kl35 => exact Tryd.underlying51); (case kl36 => rfl); (case kl37 => kernel_rfl)))
      refine (spure_any a _).mono ?_
      rintro e w1 ho
      rw [HP.out] at ho
      obtain ⟨rfl, hb⟩ : e = .returned (.bool true) ∧ Below _ _ _ := (id ho)
      clear ho
      have HB := Lib.hid (show Below w.heap.size w w1 from HB.out.trans ((show Below _ _ _ from (((Below.refl _ _).alloc (by first | omega | (simp; done) | (simp <;> omega)) _).alloc (by first | omega | (simp; done) | (simp <;> omega)) _)).trans (hb.mono (by first | omega | (simp <;> omega)))))
      have Ha : Hid (w1.rangeAt (w.heap.size) 0 [.int .i64 a.a.re, .int .i64 a.a.im, .int .i64 a.a.den, .int .i64 a.b.re, .int .i64 a.b.im, .int .i64 a.b.den, .int .i64 a.c.re, .int .i64 a.c.im, .int .i64 a.c.den, .int .i64 a.d.re, .int .i64 a.d.im, .int .i64 a.d.den]) := rangeAt_below (World.rangeAt_alloc (rangeAt_new _ _ _) _) hb (by first | omega | (simp; done) | (simp <;> omega))
      have HR := Lib.hid ((show Room _ (w.heap.size + 1) 2 from (Room.new' (by simp) rfl)).below hb (by first | omega | (simp <;> omega)))
      have hz1 := hb.size
      (try simp at hz1)
      clear hb
      have nA0 : w.heap.size < w1.heap.size := by omega
      have nB0 : ¬ w.heap.size = w1.heap.size := by omega
      have nC0 : ¬ w1.heap.size = w.heap.size := by omega
      have nA1 : w.heap.size + 1 < w1.heap.size := by omega
      have nB1 : ¬ w.heap.size + 1 = w1.heap.size := by omega
      have nC1 : ¬ w1.heap.size = w.heap.size + 1 := by omega
      have za_0 : w1.cell? ⟨w.heap.size, 0, none⟩ = some (.int .i64 a.a.re) := by have := Ha.out 0 _ rfl; rwa [Nat.zero_add] at this
      have za_1 : w1.cell? ⟨w.heap.size, 1, none⟩ = some (.int .i64 a.a.im) := by have := Ha.out 1 _ rfl; rwa [Nat.zero_add] at this
      have za_2 : w1.cell? ⟨w.heap.size, 2, none⟩ = some (.int .i64 a.a.den) := by have := Ha.out 2 _ rfl; rwa [Nat.zero_add] at this
      have za_3 : w1.cell? ⟨w.heap.size, 3, none⟩ = some (.int .i64 a.b.re) := by have := Ha.out 3 _ rfl; rwa [Nat.zero_add] at this
      have za_4 : w1.cell? ⟨w.heap.size, 4, none⟩ = some (.int .i64 a.b.im) := by have := Ha.out 4 _ rfl; rwa [Nat.zero_add] at this
      have za_5 : w1.cell? ⟨w.heap.size, 5, none⟩ = some (.int .i64 a.b.den) := by have := Ha.out 5 _ rfl; rwa [Nat.zero_add] at this
      have za_6 : w1.cell? ⟨w.heap.size, 6, none⟩ = some (.int .i64 a.c.re) := by have := Ha.out 6 _ rfl; rwa [Nat.zero_add] at this
      have za_7 : w1.cell? ⟨w.heap.size, 7, none⟩ = some (.int .i64 a.c.im) := by have := Ha.out 7 _ rfl; rwa [Nat.zero_add] at this
      have za_8 : w1.cell? ⟨w.heap.size, 8, none⟩ = some (.int .i64 a.c.den) := by have := Ha.out 8 _ rfl; rwa [Nat.zero_add] at this
      have za_9 : w1.cell? ⟨w.heap.size, 9, none⟩ = some (.int .i64 a.d.re) := by have := Ha.out 9 _ rfl; rwa [Nat.zero_add] at this
      have za_10 : w1.cell? ⟨w.heap.size, 10, none⟩ = some (.int .i64 a.d.im) := by have := Ha.out 10 _ rfl; rwa [Nat.zero_add] at this
      have za_11 : w1.cell? ⟨w.heap.size, 11, none⟩ = some (.int .i64 a.d.den) := by have := Ha.out 11 _ rfl; rwa [Nat.zero_add] at this
      go_wp2_with fail
      refine (spadd_fr a.a a.b _).mono ?_
      rintro e w2 ho
      rw [HX.out] at ho
      obtain ⟨rfl, hb⟩ : e = .returned (.tuple #[.agg #[.int .i64 x.re, .int .i64 x.im, .int .i64 x.den], .bool p]) ∧ Below _ _ _ := ho.fn
      clear ho
      have HB := Lib.hid (show Below w.heap.size w w2 from HB.out.trans ((show Below _ _ _ from (Below.refl _ _)).trans (hb.mono (by first | omega | (simp <;> omega)))))
      have Ha : Hid (w2.rangeAt (w.heap.size) 0 [.int .i64 a.a.re, .int .i64 a.a.im, .int .i64 a.a.den, .int .i64 a.b.re, .int .i64 a.b.im, .int .i64 a.b.den, .int .i64 a.c.re, .int .i64 a.c.im, .int .i64 a.c.den, .int .i64 a.d.re, .int .i64 a.d.im, .int .i64 a.d.den]) := rangeAt_below Ha.out hb (by first | omega | (simp; done) | (simp <;> omega))
      have HR := Lib.hid ((show Room _ (w.heap.size + 1) 2 from HR.out).below hb (by first | omega | (simp <;> omega)))
      have hz2 := hb.size
      (try simp at hz2)
      clear hb
      have nA0 : w.heap.size < w2.heap.size := by omega
      have nB0 : ¬ w.heap.size = w2.heap.size := by omega
      have nC0 : ¬ w2.heap.size = w.heap.size := by omega
      have nA1 : w.heap.size + 1 < w2.heap.size := by omega
      have nB1 : ¬ w.heap.size + 1 = w2.heap.size := by omega
      have nC1 : ¬ w2.heap.size = w.heap.size + 1 := by omega
      have za_0 : w2.cell? ⟨w.heap.size, 0, none⟩ = some (.int .i64 a.a.re) := by have := Ha.out 0 _ rfl; rwa [Nat.zero_add] at this
      have za_1 : w2.cell? ⟨w.heap.size, 1, none⟩ = some (.int .i64 a.a.im) := by have := Ha.out 1 _ rfl; rwa [Nat.zero_add] at this
      have za_2 : w2.cell? ⟨w.heap.size, 2, none⟩ = some (.int .i64 a.a.den) := by have := Ha.out 2 _ rfl; rwa [Nat.zero_add] at this
      have za_3 : w2.cell? ⟨w.heap.size, 3, none⟩ = some (.int .i64 a.b.re) := by have := Ha.out 3 _ rfl; rwa [Nat.zero_add] at this
      have za_4 : w2.cell? ⟨w.heap.size, 4, none⟩ = some (.int .i64 a.b.im) := by have := Ha.out 4 _ rfl; rwa [Nat.zero_add] at this
      have za_5 : w2.cell? ⟨w.heap.size, 5, none⟩ = some (.int .i64 a.b.den) := by have := Ha.out 5 _ rfl; rwa [Nat.zero_add] at this
      have za_6 : w2.cell? ⟨w.heap.size, 6, none⟩ = some (.int .i64 a.c.re) := by have := Ha.out 6 _ rfl; rwa [Nat.zero_add] at this
      have za_7 : w2.cell? ⟨w.heap.size, 7, none⟩ = some (.int .i64 a.c.im) := by have := Ha.out 7 _ rfl; rwa [Nat.zero_add] at this
      have za_8 : w2.cell? ⟨w.heap.size, 8, none⟩ = some (.int .i64 a.c.den) := by have := Ha.out 8 _ rfl; rwa [Nat.zero_add] at this
      have za_9 : w2.cell? ⟨w.heap.size, 9, none⟩ = some (.int .i64 a.d.re) := by have := Ha.out 9 _ rfl; rwa [Nat.zero_add] at this
      have za_10 : w2.cell? ⟨w.heap.size, 10, none⟩ = some (.int .i64 a.d.im) := by have := Ha.out 10 _ rfl; rwa [Nat.zero_add] at this
      have za_11 : w2.cell? ⟨w.heap.size, 11, none⟩ = some (.int .i64 a.d.den) := by have := Ha.out 11 _ rfl; rwa [Nat.zero_add] at this
      go_wp2_with fail
      refine (l4twice_any a.a.re a.a.den (by omega) (by omega) (by omega) (by omega) _).mono ?_
      rintro e w3 ho
      rw [HT.out] at ho
      obtain ⟨rfl, hb⟩ : e = .returned (.tuple #[.agg #[.int .i64 t.re, .int .i64 t.im, .int .i64 t.den], .bool true]) ∧ Below _ _ _ := ho.fn
      clear ho
      have HB := Lib.hid (show Below w.heap.size w w3 from HB.out.trans ((show Below _ _ _ from ((Below.refl _ _).alloc (by first | omega | (simp; done) | (simp <;> omega)) _)).trans (hb.mono (by first | omega | (simp <;> omega)))))
      have Ha : Hid (w3.rangeAt (w.heap.size) 0 [.int .i64 a.a.re, .int .i64 a.a.im, .int .i64 a.a.den, .int .i64 a.b.re, .int .i64 a.b.im, .int .i64 a.b.den, .int .i64 a.c.re, .int .i64 a.c.im, .int .i64 a.c.den, .int .i64 a.d.re, .int .i64 a.d.im, .int .i64 a.d.den]) := rangeAt_below (World.rangeAt_alloc Ha.out _) hb (by first | omega | (simp; done) | (simp <;> omega))
      have HR := Lib.hid ((show Room _ (w.heap.size + 1) 2 from (HR.out.alloc (by first | omega | (simp; done) | (simp <;> omega)) _)).below hb (by first | omega | (simp <;> omega)))
      have Hx : Hid (w3.rangeAt (w2.heap.size) 0 [.int .i64 x.re, .int .i64 x.im, .int .i64 x.den]) := rangeAt_below (rangeAt_new _ _ _) hb (by first | omega | (simp; done) | (simp <;> omega))
      have hz3 := hb.size
      (try simp at hz3)
      clear hb
      have nA0 : w.heap.size < w3.heap.size := by omega
      have nB0 : ¬ w.heap.size = w3.heap.size := by omega
      have nC0 : ¬ w3.heap.size = w.heap.size := by omega
      have nA2 : w2.heap.size < w3.heap.size := by omega
      have nB2 : ¬ w2.heap.size = w3.heap.size := by omega
      have nC2 : ¬ w3.heap.size = w2.heap.size := by omega
      have nA1 : w.heap.size + 1 < w3.heap.size := by omega
      have nB1 : ¬ w.heap.size + 1 = w3.heap.size := by omega
      have nC1 : ¬ w3.heap.size = w.heap.size + 1 := by omega
      have za_0 : w3.cell? ⟨w.heap.size, 0, none⟩ = some (.int .i64 a.a.re) := by have := Ha.out 0 _ rfl; rwa [Nat.zero_add] at this
      have za_1 : w3.cell? ⟨w.heap.size, 1, none⟩ = some (.int .i64 a.a.im) := by have := Ha.out 1 _ rfl; rwa [Nat.zero_add] at this
      have za_2 : w3.cell? ⟨w.heap.size, 2, none⟩ = some (.int .i64 a.a.den) := by have := Ha.out 2 _ rfl; rwa [Nat.zero_add] at this
      have za_3 : w3.cell? ⟨w.heap.size, 3, none⟩ = some (.int .i64 a.b.re) := by have := Ha.out 3 _ rfl; rwa [Nat.zero_add] at this
      have za_4 : w3.cell? ⟨w.heap.size, 4, none⟩ = some (.int .i64 a.b.im) := by have := Ha.out 4 _ rfl; rwa [Nat.zero_add] at this
      have za_5 : w3.cell? ⟨w.heap.size, 5, none⟩ = some (.int .i64 a.b.den) := by have := Ha.out 5 _ rfl; rwa [Nat.zero_add] at this
      have za_6 : w3.cell? ⟨w.heap.size, 6, none⟩ = some (.int .i64 a.c.re) := by have := Ha.out 6 _ rfl; rwa [Nat.zero_add] at this
      have za_7 : w3.cell? ⟨w.heap.size, 7, none⟩ = some (.int .i64 a.c.im) := by have := Ha.out 7 _ rfl; rwa [Nat.zero_add] at this
      have za_8 : w3.cell? ⟨w.heap.size, 8, none⟩ = some (.int .i64 a.c.den) := by have := Ha.out 8 _ rfl; rwa [Nat.zero_add] at this
      have za_9 : w3.cell? ⟨w.heap.size, 9, none⟩ = some (.int .i64 a.d.re) := by have := Ha.out 9 _ rfl; rwa [Nat.zero_add] at this
      have za_10 : w3.cell? ⟨w.heap.size, 10, none⟩ = some (.int .i64 a.d.im) := by have := Ha.out 10 _ rfl; rwa [Nat.zero_add] at this
      have za_11 : w3.cell? ⟨w.heap.size, 11, none⟩ = some (.int .i64 a.d.den) := by have := Ha.out 11 _ rfl; rwa [Nat.zero_add] at this
      go_wp2_with fail
      refine (sptimes_fr a.d ⟨0, -1, 1⟩ _).mono ?_
      rintro e w4 ho
      rw [show fTimes a.d ⟨0, -1, 1⟩ = (u, true) from HU.out] at ho
      obtain ⟨rfl, hb⟩ : e = .returned (.tuple #[.agg #[.int .i64 u.re, .int .i64 u.im, .int .i64 u.den], .bool true]) ∧ Below _ _ _ := ho.fn
      clear ho
      have HB := Lib.hid (show Below w.heap.size w w4 from HB.out.trans ((show Below _ _ _ from ((Below.refl _ _).alloc (by first | omega | (simp; done) | (simp <;> omega)) _)).trans (hb.mono (by first | omega | (simp <;> omega)))))
      have Ha : Hid (w4.rangeAt (w.heap.size) 0 [.int .i64 a.a.re, .int .i64 a.a.im, .int .i64 a.a.den, .int .i64 a.b.re, .int .i64 a.b.im, .int .i64 a.b.den, .int .i64 a.c.re, .int .i64 a.c.im, .int .i64 a.c.den, .int .i64 a.d.re, .int .i64 a.d.im, .int .i64 a.d.den]) := rangeAt_below (World.rangeAt_alloc Ha.out _) hb (by first | omega | (simp; done) | (simp <;> omega))
      have Hx : Hid (w4.rangeAt (w2.heap.size) 0 [.int .i64 x.re, .int .i64 x.im, .int .i64 x.den]) := rangeAt_below (World.rangeAt_alloc Hx.out _) hb (by first | omega | (simp; done) | (simp <;> omega))
      have HR := Lib.hid ((show Room _ (w.heap.size + 1) 2 from (HR.out.alloc (by first | omega | (simp; done) | (simp <;> omega)) _)).below hb (by first | omega | (simp <;> omega)))
      have Ht : Hid (w4.rangeAt (w3.heap.size) 0 [.int .i64 t.re, .int .i64 t.im, .int .i64 t.den]) := rangeAt_below (rangeAt_new _ _ _) hb (by first | omega | (simp; done) | (simp <;> omega))
      have hz4 := hb.size
      (try simp at hz4)
      clear hb
      have nA0 : w.heap.size < w4.heap.size := by omega
      have nB0 : ¬ w.heap.size = w4.heap.size := by omega
      have nC0 : ¬ w4.heap.size = w.heap.size := by omega
      have nA2 : w2.heap.size < w4.heap.size := by omega
      have nB2 : ¬ w2.heap.size = w4.heap.size := by omega
      have nC2 : ¬ w4.heap.size = w2.heap.size := by omega
      have nA3 : w3.heap.size < w4.heap.size := by omega
      have nB3 : ¬ w3.heap.size = w4.heap.size := by omega
      have nC3 : ¬ w4.heap.size = w3.heap.size := by omega
      have nA1 : w.heap.size + 1 < w4.heap.size := by omega
      have nB1 : ¬ w.heap.size + 1 = w4.heap.size := by omega
      have nC1 : ¬ w4.heap.size = w.heap.size + 1 := by omega
      have zx_0 : w4.cell? ⟨w2.heap.size, 0, none⟩ = some (.int .i64 x.re) := by have := Hx.out 0 _ rfl; rwa [Nat.zero_add] at this
      have zx_1 : w4.cell? ⟨w2.heap.size, 1, none⟩ = some (.int .i64 x.im) := by have := Hx.out 1 _ rfl; rwa [Nat.zero_add] at this
      have zx_2 : w4.cell? ⟨w2.heap.size, 2, none⟩ = some (.int .i64 x.den) := by have := Hx.out 2 _ rfl; rwa [Nat.zero_add] at this
      have zt_0 : w4.cell? ⟨w3.heap.size, 0, none⟩ = some (.int .i64 t.re) := by have := Ht.out 0 _ rfl; rwa [Nat.zero_add] at this
      have zt_1 : w4.cell? ⟨w3.heap.size, 1, none⟩ = some (.int .i64 t.im) := by have := Ht.out 1 _ rfl; rwa [Nat.zero_add] at this
      have zt_2 : w4.cell? ⟨w3.heap.size, 2, none⟩ = some (.int .i64 t.den) := by have := Ht.out 2 _ rfl; rwa [Nat.zero_add] at this
      have za_0 : w4.cell? ⟨w.heap.size, 0, none⟩ = some (.int .i64 a.a.re) := by have := Ha.out 0 _ rfl; rwa [Nat.zero_add] at this
      have za_1 : w4.cell? ⟨w.heap.size, 1, none⟩ = some (.int .i64 a.a.im) := by have := Ha.out 1 _ rfl; rwa [Nat.zero_add] at this
      have za_2 : w4.cell? ⟨w.heap.size, 2, none⟩ = some (.int .i64 a.a.den) := by have := Ha.out 2 _ rfl; rwa [Nat.zero_add] at this
      have za_3 : w4.cell? ⟨w.heap.size, 3, none⟩ = some (.int .i64 a.b.re) := by have := Ha.out 3 _ rfl; rwa [Nat.zero_add] at this
      have za_4 : w4.cell? ⟨w.heap.size, 4, none⟩ = some (.int .i64 a.b.im) := by have := Ha.out 4 _ rfl; rwa [Nat.zero_add] at this
      have za_5 : w4.cell? ⟨w.heap.size, 5, none⟩ = some (.int .i64 a.b.den) := by have := Ha.out 5 _ rfl; rwa [Nat.zero_add] at this
      have za_6 : w4.cell? ⟨w.heap.size, 6, none⟩ = some (.int .i64 a.c.re) := by have := Ha.out 6 _ rfl; rwa [Nat.zero_add] at this
      have za_7 : w4.cell? ⟨w.heap.size, 7, none⟩ = some (.int .i64 a.c.im) := by have := Ha.out 7 _ rfl; rwa [Nat.zero_add] at this
      have za_8 : w4.cell? ⟨w.heap.size, 8, none⟩ = some (.int .i64 a.c.den) := by have := Ha.out 8 _ rfl; rwa [Nat.zero_add] at this
      have za_9 : w4.cell? ⟨w.heap.size, 9, none⟩ = some (.int .i64 a.d.re) := by have := Ha.out 9 _ rfl; rwa [Nat.zero_add] at this
      have za_10 : w4.cell? ⟨w.heap.size, 10, none⟩ = some (.int .i64 a.d.im) := by have := Ha.out 10 _ rfl; rwa [Nat.zero_add] at this
      have za_11 : w4.cell? ⟨w.heap.size, 11, none⟩ = some (.int .i64 a.d.den) := by have := Ha.out 11 _ rfl; rwa [Nat.zero_add] at this
      cases p
      · skip
        have HG : Hid (gVecS a = (j2z, false)) := hg.out
        have hth := (show Room (w4.alloc (.cells #[.int .i64 u.re, .int .i64 u.im, .int .i64 u.den] 23)) (w.heap.size + 1) 2 from (HR.out.alloc (by first | omega | (simp; done) | (simp <;> omega)) _)).there
        go_wp2_with (first | ((with_reducible refine wpList_store_mid ?kl41 47 ?kl4x ?kl4y ?kl42 (w.heap.size + 1) 0 #[.int .i64 0, .int .i64 0, .int .i64 0, .int .i64 0, .int .i64 0, .int .i64 0] ?kl43 ?kl44 ?kl45 ?kl46 ?kl47 ?kl48); (case kl42 => rfl); (case kl41 => rfl); (case kl43 => rfl); (case kl44 => rfl); (case kl45 => exact hth); (case kl46 => kernel_rfl); (case kl47 => exact (by simp [Value.oneCell']))))
        refine bodyPost_ret (v := .tuple #[.agg #[.int .i64 0, .int .i64 0, .int .i64 0, .int .i64 0, .int .i64 0, .int .i64 0], .bool false]) ?_ rfl (J2Out.no HG.out ?_)
        · exact Eq.trans (results_cell_mid2 Tryd.results24 _ _ (w.heap.size + 1) [.int .i64 0, .int .i64 0, .int .i64 0, .int .i64 0, .int .i64 0, .int .i64 0] _ (by rfl) (World.rangeAt_setCells_same _ (w.heap.size + 1) 0 [.int .i64 0, .int .i64 0, .int .i64 0, .int .i64 0, .int .i64 0, .int .i64 0] hth) Tryd.underlying47 rfl (by kernel_rfl)) rfl
        · (repeat' first | (with_reducible exact HB.out) | with_reducible refine setCells_below _ _ _ ?_ (by first | omega | (simp <;> omega)) | with_reducible refine Below.setCell ?_ (by show _ ≤ _; first | omega | (simp <;> omega) | simp) _ | with_reducible refine Below.alloc ?_ (by first | omega | (simp <;> omega)) _ | with_reducible apply Below.drew | with_reducible refine below_drewN ?_ _)
      · skip
        cases hs : (x.re == 0)
        · skip
          have hss : ¬ x.re = 0 := by simpa using hs
          have hg2 : Hid (gVecS a = if ok = true then (⟨x, y⟩, true) else (j2z, false)) := by show _ = _; rw [hg.out, hs]; rfl
          clear hs hg
          go_wp2_with fail
          refine (spadd_fr a.c u _).mono ?_
          rintro e w5 ho
          rw [HY.out] at ho
          obtain ⟨rfl, hb⟩ : e = .returned (.tuple #[.agg #[.int .i64 y.re, .int .i64 y.im, .int .i64 y.den], .bool ok]) ∧ Below _ _ _ := ho.fn
          clear ho
          have HB := Lib.hid (show Below w.heap.size w w5 from HB.out.trans ((show Below _ _ _ from ((Below.refl _ _).alloc (by first | omega | (simp; done) | (simp <;> omega)) _)).trans (hb.mono (by first | omega | (simp <;> omega)))))
          have Ha : Hid (w5.rangeAt (w.heap.size) 0 [.int .i64 a.a.re, .int .i64 a.a.im, .int .i64 a.a.den, .int .i64 a.b.re, .int .i64 a.b.im, .int .i64 a.b.den, .int .i64 a.c.re, .int .i64 a.c.im, .int .i64 a.c.den, .int .i64 a.d.re, .int .i64 a.d.im, .int .i64 a.d.den]) := rangeAt_below (World.rangeAt_alloc Ha.out _) hb (by first | omega | (simp; done) | (simp <;> omega))
          have Hx : Hid (w5.rangeAt (w2.heap.size) 0 [.int .i64 x.re, .int .i64 x.im, .int .i64 x.den]) := rangeAt_below (World.rangeAt_alloc Hx.out _) hb (by first | omega | (simp; done) | (simp <;> omega))
          have Ht : Hid (w5.rangeAt (w3.heap.size) 0 [.int .i64 t.re, .int .i64 t.im, .int .i64 t.den]) := rangeAt_below (World.rangeAt_alloc Ht.out _) hb (by first | omega | (simp; done) | (simp <;> omega))
          have HR := Lib.hid ((show Room _ (w.heap.size + 1) 2 from (HR.out.alloc (by first | omega | (simp; done) | (simp <;> omega)) _)).below hb (by first | omega | (simp <;> omega)))
          have Hu : Hid (w5.rangeAt (w4.heap.size) 0 [.int .i64 u.re, .int .i64 u.im, .int .i64 u.den]) := rangeAt_below (rangeAt_new _ _ _) hb (by first | omega | (simp; done) | (simp <;> omega))
          have hz5 := hb.size
          (try simp at hz5)
          clear hb
          have nA0 : w.heap.size < w5.heap.size := by omega
          have nB0 : ¬ w.heap.size = w5.heap.size := by omega
          have nC0 : ¬ w5.heap.size = w.heap.size := by omega
          have nA2 : w2.heap.size < w5.heap.size := by omega
          have nB2 : ¬ w2.heap.size = w5.heap.size := by omega
          have nC2 : ¬ w5.heap.size = w2.heap.size := by omega
          have nA3 : w3.heap.size < w5.heap.size := by omega
          have nB3 : ¬ w3.heap.size = w5.heap.size := by omega
          have nC3 : ¬ w5.heap.size = w3.heap.size := by omega
          have nA4 : w4.heap.size < w5.heap.size := by omega
          have nB4 : ¬ w4.heap.size = w5.heap.size := by omega
          have nC4 : ¬ w5.heap.size = w4.heap.size := by omega
          have nA1 : w.heap.size + 1 < w5.heap.size := by omega
          have nB1 : ¬ w.heap.size + 1 = w5.heap.size := by omega
          have nC1 : ¬ w5.heap.size = w.heap.size + 1 := by omega
          have zx_0 : w5.cell? ⟨w2.heap.size, 0, none⟩ = some (.int .i64 x.re) := by have := Hx.out 0 _ rfl; rwa [Nat.zero_add] at this
          have zx_1 : w5.cell? ⟨w2.heap.size, 1, none⟩ = some (.int .i64 x.im) := by have := Hx.out 1 _ rfl; rwa [Nat.zero_add] at this
          have zx_2 : w5.cell? ⟨w2.heap.size, 2, none⟩ = some (.int .i64 x.den) := by have := Hx.out 2 _ rfl; rwa [Nat.zero_add] at this
          cases ok
          · skip
            have HG : Hid (gVecS a = (j2z, false)) := hg2.out
            have hth := (show Room (w5.alloc (.cells #[.int .i64 y.re, .int .i64 y.im, .int .i64 y.den] 23)) (w.heap.size + 1) 2 from (HR.out.alloc (by first | omega | (simp; done) | (simp <;> omega)) _)).there
            go_wp2_with (first | ((with_reducible refine wpList_store_mid ?kl51 47 ?kl5x ?kl5y ?kl52 (w.heap.size + 1) 0 #[.int .i64 0, .int .i64 0, .int .i64 0, .int .i64 0, .int .i64 0, .int .i64 0] ?kl53 ?kl54 ?kl55 ?kl56 ?kl57 ?kl58); (case kl52 => rfl); (case kl51 => rfl); (case kl53 => rfl); (case kl54 => rfl); (case kl55 => exact hth); (case kl56 => kernel_rfl); (case kl57 => exact (by simp [Value.oneCell']))))
            refine bodyPost_ret (v := .tuple #[.agg #[.int .i64 0, .int .i64 0, .int .i64 0, .int .i64 0, .int .i64 0, .int .i64 0], .bool false]) ?_ rfl (J2Out.no HG.out ?_)
            · exact Eq.trans (results_cell_mid2 Tryd.results24 _ _ (w.heap.size + 1) [.int .i64 0, .int .i64 0, .int .i64 0, .int .i64 0, .int .i64 0, .int .i64 0] _ (by rfl) (World.rangeAt_setCells_same _ (w.heap.size + 1) 0 [.int .i64 0, .int .i64 0, .int .i64 0, .int .i64 0, .int .i64 0, .int .i64 0] hth) Tryd.underlying47 rfl (by kernel_rfl)) rfl
            · (repeat' first | (with_reducible exact HB.out) | with_reducible refine setCells_below _ _ _ ?_ (by first | omega | (simp <;> omega)) | with_reducible refine Below.setCell ?_ (by show _ ≤ _; first | omega | (simp <;> omega) | simp) _ | with_reducible refine Below.alloc ?_ (by first | omega | (simp <;> omega)) _ | with_reducible apply Below.drew | with_reducible refine below_drewN ?_ _)
          · skip
            have HG : Hid (gVecS a = (⟨x, y⟩, true)) := hg2.out
            have hth := (show Room (w5.alloc (.cells #[.int .i64 y.re, .int .i64 y.im, .int .i64 y.den] 23)) (w.heap.size + 1) 2 from (HR.out.alloc (by first | omega | (simp; done) | (simp <;> omega)) _)).there
            go_wp2_with (first | ((with_reducible refine wpList_store_mid ?kl61 47 ?kl6x ?kl6y ?kl62 (w.heap.size + 1) 0 #[.int .i64 x.re, .int .i64 x.im, .int .i64 x.den, .int .i64 y.re, .int .i64 y.im, .int .i64 y.den] ?kl63 ?kl64 ?kl65 ?kl66 ?kl67 ?kl68); (case kl62 => rfl); (case kl61 => rfl); (case kl63 => rfl); (case kl64 => rfl); (case kl65 => exact hth); (case kl66 => kernel_rfl); (case kl67 => exact (by simp [Value.oneCell']))))
            refine bodyPost_ret (v := .tuple #[.agg #[.int .i64 x.re, .int .i64 x.im, .int .i64 x.den, .int .i64 y.re, .int .i64 y.im, .int .i64 y.den], .bool true]) ?_ rfl (J2Out.yes (f := ⟨x, y⟩) (by rw [HG.out]) (by rw [HG.out]) ?_)
            · exact Eq.trans (results_cell_mid2 Tryd.results24 _ _ (w.heap.size + 1) [.int .i64 x.re, .int .i64 x.im, .int .i64 x.den, .int .i64 y.re, .int .i64 y.im, .int .i64 y.den] _ (by rfl) (World.rangeAt_setCells_same _ (w.heap.size + 1) 0 [.int .i64 x.re, .int .i64 x.im, .int .i64 x.den, .int .i64 y.re, .int .i64 y.im, .int .i64 y.den] hth) Tryd.underlying47 rfl (by kernel_rfl)) rfl
            · (repeat' first | (with_reducible exact HB.out) | with_reducible refine setCells_below _ _ _ ?_ (by first | omega | (simp <;> omega)) | with_reducible refine Below.setCell ?_ (by show _ ≤ _; first | omega | (simp <;> omega) | simp) _ | with_reducible refine Below.alloc ?_ (by first | omega | (simp <;> omega)) _ | with_reducible apply Below.drew | with_reducible refine below_drewN ?_ _)
        · skip
          have hss : x.re = 0 := by simpa using hs
          have HG : Hid (gVecS a = (⟨f0, t⟩, true)) := by show _ = _; rw [hg.out, hs]; rfl
          clear hs hg
          have hth := (show Room (w4.alloc (.cells #[.int .i64 u.re, .int .i64 u.im, .int .i64 u.den] 23)) (w.heap.size + 1) 2 from (HR.out.alloc (by first | omega | (simp; done) | (simp <;> omega)) _)).there
          go_wp2_with (first | ((with_reducible refine wpList_store_mid ?kl71 47 ?kl7x ?kl7y ?kl72 (w.heap.size + 1) 0 #[.int .i64 0, .int .i64 0, .int .i64 1, .int .i64 t.re, .int .i64 t.im, .int .i64 t.den] ?kl73 ?kl74 ?kl75 ?kl76 ?kl77 ?kl78); (case kl72 => rfl); (case kl71 => rfl); (case kl73 => rfl); (case kl74 => rfl); (case kl75 => exact hth); (case kl76 => kernel_rfl); (case kl77 => exact (by simp [Value.oneCell']))))
          refine bodyPost_ret (v := .tuple #[.agg #[.int .i64 0, .int .i64 0, .int .i64 1, .int .i64 t.re, .int .i64 t.im, .int .i64 t.den], .bool true]) ?_ rfl (J2Out.yes (f := ⟨f0, t⟩) (by rw [HG.out]) (by rw [HG.out]) ?_)
          · exact Eq.trans (results_cell_mid2 Tryd.results24 _ _ (w.heap.size + 1) [.int .i64 0, .int .i64 0, .int .i64 1, .int .i64 t.re, .int .i64 t.im, .int .i64 t.den] _ (by rfl) (World.rangeAt_setCells_same _ (w.heap.size + 1) 0 [.int .i64 0, .int .i64 0, .int .i64 1, .int .i64 t.re, .int .i64 t.im, .int .i64 t.den] hth) Tryd.underlying47 rfl (by kernel_rfl)) rfl
          · (repeat' first | (with_reducible exact HB.out) | with_reducible refine setCells_below _ _ _ ?_ (by first | omega | (simp <;> omega)) | with_reducible refine Below.setCell ?_ (by show _ ≤ _; first | omega | (simp <;> omega) | simp) _ | with_reducible refine Below.alloc ?_ (by first | omega | (simp <;> omega)) _ | with_reducible apply Below.drew | with_reducible refine below_drewN ?_ _)
    · skip
      have HG := Lib.hid (gVecS_2 hz)
      have HZ : Hid (a.a.re = 0) := Lib.hid (show a.a.re = 0 by simpa using hz)
      clear hz
      have HB : Hid (Below w.heap.size w w) := Below.refl _ _
      go_enter Tryd.func24, Tryd.ntmps24
      go_wp2_with (first | ((with_reducible refine wpList_load_mid ?kl81 51 ?kl8x ?kl82 (w.heap.size) 0 ?kl83 [.int .i64 a.a.re, .int .i64 a.a.im, .int .i64 a.a.den, .int .i64 a.b.re, .int .i64 a.b.im, .int .i64 a.b.den, .int .i64 a.c.re, .int .i64 a.c.im, .int .i64 a.c.den, .int .i64 a.d.re, .int .i64 a.d.im, .int .i64 a.d.den] ?kl8d ?kl84 ?kl85 ?kl86 ?kl87 ?kl88); (case kl82 => rfl); (case kl81 => rfl); (case kl83 => rfl); (case kl84 => (exact (World.rangeAt_alloc (rangeAt_new _ _ _) _))); (case kl85 => exact Tryd.underlying51); (case kl86 => rfl); (case kl87 => kernel_rfl)))
      refine (spure_any a _).mono ?_
      rintro e w1 ho
      rw [hp] at ho
      obtain ⟨rfl, hb⟩ : e = .returned (.bool true) ∧ Below _ _ _ := (id ho)
      clear ho
      have HB := Lib.hid (show Below w.heap.size w w1 from HB.out.trans ((show Below _ _ _ from (((Below.refl _ _).alloc (by first | omega | (simp; done) | (simp <;> omega)) _).alloc (by first | omega | (simp; done) | (simp <;> omega)) _)).trans (hb.mono (by first | omega | (simp <;> omega)))))
      have Ha : Hid (w1.rangeAt (w.heap.size) 0 [.int .i64 a.a.re, .int .i64 a.a.im, .int .i64 a.a.den, .int .i64 a.b.re, .int .i64 a.b.im, .int .i64 a.b.den, .int .i64 a.c.re, .int .i64 a.c.im, .int .i64 a.c.den, .int .i64 a.d.re, .int .i64 a.d.im, .int .i64 a.d.den]) := rangeAt_below (World.rangeAt_alloc (rangeAt_new _ _ _) _) hb (by first | omega | (simp; done) | (simp <;> omega))
      have HR := Lib.hid ((show Room _ (w.heap.size + 1) 2 from (Room.new' (by simp) rfl)).below hb (by first | omega | (simp <;> omega)))
      have hz1 := hb.size
      (try simp at hz1)
      clear hb
      have nA0 : w.heap.size < w1.heap.size := by omega
      have nB0 : ¬ w.heap.size = w1.heap.size := by omega
      have nC0 : ¬ w1.heap.size = w.heap.size := by omega
      have nA1 : w.heap.size + 1 < w1.heap.size := by omega
      have nB1 : ¬ w.heap.size + 1 = w1.heap.size := by omega
      have nC1 : ¬ w1.heap.size = w.heap.size + 1 := by omega
      have za_0 : w1.cell? ⟨w.heap.size, 0, none⟩ = some (.int .i64 a.a.re) := by have := Ha.out 0 _ rfl; rwa [Nat.zero_add] at this
      have za_1 : w1.cell? ⟨w.heap.size, 1, none⟩ = some (.int .i64 a.a.im) := by have := Ha.out 1 _ rfl; rwa [Nat.zero_add] at this
      have za_2 : w1.cell? ⟨w.heap.size, 2, none⟩ = some (.int .i64 a.a.den) := by have := Ha.out 2 _ rfl; rwa [Nat.zero_add] at this
      have za_3 : w1.cell? ⟨w.heap.size, 3, none⟩ = some (.int .i64 a.b.re) := by have := Ha.out 3 _ rfl; rwa [Nat.zero_add] at this
      have za_4 : w1.cell? ⟨w.heap.size, 4, none⟩ = some (.int .i64 a.b.im) := by have := Ha.out 4 _ rfl; rwa [Nat.zero_add] at this
      have za_5 : w1.cell? ⟨w.heap.size, 5, none⟩ = some (.int .i64 a.b.den) := by have := Ha.out 5 _ rfl; rwa [Nat.zero_add] at this
      have za_6 : w1.cell? ⟨w.heap.size, 6, none⟩ = some (.int .i64 a.c.re) := by have := Ha.out 6 _ rfl; rwa [Nat.zero_add] at this
      have za_7 : w1.cell? ⟨w.heap.size, 7, none⟩ = some (.int .i64 a.c.im) := by have := Ha.out 7 _ rfl; rwa [Nat.zero_add] at this
      have za_8 : w1.cell? ⟨w.heap.size, 8, none⟩ = some (.int .i64 a.c.den) := by have := Ha.out 8 _ rfl; rwa [Nat.zero_add] at this
      have za_9 : w1.cell? ⟨w.heap.size, 9, none⟩ = some (.int .i64 a.d.re) := by have := Ha.out 9 _ rfl; rwa [Nat.zero_add] at this
      have za_10 : w1.cell? ⟨w.heap.size, 10, none⟩ = some (.int .i64 a.d.im) := by have := Ha.out 10 _ rfl; rwa [Nat.zero_add] at this
      have za_11 : w1.cell? ⟨w.heap.size, 11, none⟩ = some (.int .i64 a.d.den) := by have := Ha.out 11 _ rfl; rwa [Nat.zero_add] at this
      have hzz := HZ.out
      have hth := (show Room w1 (w.heap.size + 1) 2 from HR.out).there
      go_wp2_with (first | ((with_reducible refine wpList_store_mid ?kl91 47 ?kl9x ?kl9y ?kl92 (w.heap.size + 1) 0 #[.int .i64 0, .int .i64 0, .int .i64 0, .int .i64 0, .int .i64 0, .int .i64 0] ?kl93 ?kl94 ?kl95 ?kl96 ?kl97 ?kl98); (case kl92 => rfl); (case kl91 => rfl); (case kl93 => rfl); (case kl94 => rfl); (case kl95 => exact hth); (case kl96 => kernel_rfl); (case kl97 => exact (by simp [Value.oneCell']))))
      refine bodyPost_ret (v := .tuple #[.agg #[.int .i64 0, .int .i64 0, .int .i64 0, .int .i64 0, .int .i64 0, .int .i64 0], .bool false]) ?_ rfl (J2Out.no HG.out ?_)
      · exact Eq.trans (results_cell_mid2 Tryd.results24 _ _ (w.heap.size + 1) [.int .i64 0, .int .i64 0, .int .i64 0, .int .i64 0, .int .i64 0, .int .i64 0] _ (by rfl) (World.rangeAt_setCells_same _ (w.heap.size + 1) 0 [.int .i64 0, .int .i64 0, .int .i64 0, .int .i64 0, .int .i64 0, .int .i64 0] hth) Tryd.underlying47 rfl (by kernel_rfl)) rfl
      · (repeat' first | (with_reducible exact HB.out) | with_reducible refine setCells_below _ _ _ ?_ (by first | omega | (simp <;> omega)) | with_reducible refine Below.setCell ?_ (by show _ ≤ _; first | omega | (simp <;> omega) | simp) _ | with_reducible refine Below.alloc ?_ (by first | omega | (simp <;> omega)) _ | with_reducible apply Below.drew | with_reducible refine below_drewN ?_ _)
theorem svec_v (a : M4) (w : World) : Calls Tryd.prog 24 #[.agg #[.int .i64 a.a.re, .int .i64 a.a.im, .int .i64 a.a.den, .int .i64 a.b.re, .int .i64 a.b.im, .int .i64 a.b.den, .int .i64 a.c.re, .int .i64 a.c.im, .int .i64 a.c.den, .int .i64 a.d.re, .int .i64 a.d.im, .int .i64 a.d.den]] w (J2Out (gVec a) w) := gVec_eq a ▸ svec_any a w
end Go.Proofs.YtmcokdiopcpifaaDoor
