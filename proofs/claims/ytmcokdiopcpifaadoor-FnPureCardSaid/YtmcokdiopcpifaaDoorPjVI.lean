/- Contracts: the vector of pure light, the program's side. -/
import Derived.Test.YtmcokdiopcpifaaDoorPjVC
set_option maxRecDepth 100000
namespace Go.Proofs.YtmcokdiopcpifaaDoor
open Go.RowKit Pol
theorem gVec_f {a : M4} {x : Fr} {p : Bool} (h : gPure a = true) (hz : m4B a mZ = false) (hx : fAdd a.a a.b = (x, p)) (hp : p = false) : gVec a = (j2z, false) := by rw [gVec_3 h hz hx, hp]; rfl
theorem gVec_z {a : M4} {x : Fr} {p : Bool} (h : gPure a = true) (hz : m4B a mZ = false) (hx : fAdd a.a a.b = (x, p)) (hp : p = true) (hf : frB x f0 = true) : gVec a = (⟨f0, (fTimes f2' a.a).1⟩, true) := by rw [gVec_3 h hz hx, hp, hf]; rfl
theorem gVec_n {a : M4} {x : Fr} {p : Bool} (h : gPure a = true) (hz : m4B a mZ = false) (hx : fAdd a.a a.b = (x, p)) (hp : p = true) (hf : frB x f0 = false) : gVec a = if (fLess a.c (fTimes a.d pI).1).2 = true then (⟨x, (fLess a.c (fTimes a.d pI).1).1⟩, true) else (j2z, false) := by rw [gVec_3 h hz hx, hp, hf]; rfl
theorem cells_v8 {w W : World} {R P nz B X A : Nat} {v : Bool} {L : List (Nat × Nat × (Nat → Fr))} {a : M4} {x : Fr} (hX : (X, 1, fun _ => x) ∈ L) (hA : (A, 4, a.get) ∈ L) (hU : (2, 1, ixF pI) ∈ L) (K : CK w P R nz v B L W) : W.cell? ⟨X, 0, none⟩ = some (.int .i64 x.re) ∧ W.cell? ⟨X, 1, none⟩ = some (.int .i64 x.im) ∧ W.cell? ⟨X, 2, none⟩ = some (.int .i64 x.den) ∧ W.cell? ⟨A, 6, none⟩ = some (.int .i64 a.c.re) ∧ W.cell? ⟨A, 7, none⟩ = some (.int .i64 a.c.im) ∧ W.cell? ⟨A, 8, none⟩ = some (.int .i64 a.c.den) ∧ W.cell? ⟨A, 9, none⟩ = some (.int .i64 a.d.re) ∧ W.cell? ⟨A, 10, none⟩ = some (.int .i64 a.d.im) ∧ W.cell? ⟨A, 11, none⟩ = some (.int .i64 a.d.den) ∧ W.cell? ⟨2, 0, none⟩ = some (.int .i64 0) ∧ W.cell? ⟨2, 1, none⟩ = some (.int .i64 1) ∧ W.cell? ⟨2, 2, none⟩ = some (.int .i64 1) :=
  ⟨((K.box _ hX).2.2 0 (by show 0 < 1; omega)).1, ((K.box _ hX).2.2 0 (by show 0 < 1; omega)).2.1, ((K.box _ hX).2.2 0 (by show 0 < 1; omega)).2.2, ((K.box _ hA).2.2 2 (by show 2 < 4; omega)).1, ((K.box _ hA).2.2 2 (by show 2 < 4; omega)).2.1, ((K.box _ hA).2.2 2 (by show 2 < 4; omega)).2.2, ((K.box _ hA).2.2 3 (by show 3 < 4; omega)).1, ((K.box _ hA).2.2 3 (by show 3 < 4; omega)).2.1, ((K.box _ hA).2.2 3 (by show 3 < 4; omega)).2.2, ((K.box _ hU).2.2 0 (by show 0 < 1; omega)).1, ((K.box _ hU).2.2 0 (by show 0 < 1; omega)).2.1, ((K.box _ hU).2.2 0 (by show 0 < 1; omega)).2.2⟩
theorem cells_v9 {w W : World} {R P nz B A : Nat} {v : Bool} {L : List (Nat × Nat × (Nat → Fr))} {a : M4} (hA : (A, 4, a.get) ∈ L) (hZ : (1, 1, ixF f0) ∈ L) (K : CK w P R nz v B L W) : W.cell? ⟨A, 0, none⟩ = some (.int .i64 a.a.re) ∧ W.cell? ⟨A, 1, none⟩ = some (.int .i64 a.a.im) ∧ W.cell? ⟨A, 2, none⟩ = some (.int .i64 a.a.den) ∧ W.cell? ⟨1, 0, none⟩ = some (.int .i64 0) ∧ W.cell? ⟨1, 1, none⟩ = some (.int .i64 0) ∧ W.cell? ⟨1, 2, none⟩ = some (.int .i64 1) :=
  ⟨((K.box _ hA).2.2 0 (by show 0 < 4; omega)).1, ((K.box _ hA).2.2 0 (by show 0 < 4; omega)).2.1, ((K.box _ hA).2.2 0 (by show 0 < 4; omega)).2.2, ((K.box _ hZ).2.2 0 (by show 0 < 1; omega)).1, ((K.box _ hZ).2.2 0 (by show 0 < 1; omega)).2.1, ((K.box _ hZ).2.2 0 (by show 0 < 1; omega)).2.2⟩
set_option maxRecDepth 100000 in
set_option maxHeartbeats 40000000 in
theorem ivec_any (a : M4) (w : World) (hg_zero : Gat w 1 (ixF f0) 1) (hg_unit : Gat w 2 (ixF pI) 1) :
    Calls Tryd.prog 26 #[.agg #[.int .i64 a.a.re, .int .i64 a.a.im, .int .i64 a.a.den, .int .i64 a.b.re, .int .i64 a.b.im, .int .i64 a.b.den, .int .i64 a.c.re, .int .i64 a.c.im, .int .i64 a.c.den, .int .i64 a.d.re, .int .i64 a.d.im, .int .i64 a.d.den]] w (J2Out (gVec a) w) := by
  cases hp : gPure a
  · skip
    have HG := Lib.hid (gVec_1 hp)
    have HB : Hid (Below w.heap.size w w) := Below.refl _ _
    have HG_zero := Lib.hid hg_zero; clear hg_zero
    have HG_unit := Lib.hid hg_unit; clear hg_unit
    go_enter Tryd.func26, Tryd.ntmps26
    go_wp2_with (first | ((with_reducible refine wpList_load_mid ?kl11 51 ?kl1x ?kl12 (w.heap.size) 0 ?kl13 [.int .i64 a.a.re, .int .i64 a.a.im, .int .i64 a.a.den, .int .i64 a.b.re, .int .i64 a.b.im, .int .i64 a.b.den, .int .i64 a.c.re, .int .i64 a.c.im, .int .i64 a.c.den, .int .i64 a.d.re, .int .i64 a.d.im, .int .i64 a.d.den] ?kl1d ?kl14 ?kl15 ?kl16 ?kl17 ?kl18); (case kl12 => rfl); (case kl11 => rfl); (case kl13 => rfl); (case kl14 => (exact (World.rangeAt_alloc (rangeAt_new _ _ _) _))); (case kl15 => exact Tryd.underlying51); (case kl16 => rfl); (case kl17 => kernel_rfl)))
    refine (ipure_any a _).mono ?_
    rintro e w1 ho
    rw [hp] at ho
    obtain ⟨rfl, hb⟩ : e = .returned (.bool false) ∧ Below _ _ _ := (id ho)
    clear ho
    have HB := Lib.hid (show Below w.heap.size w w1 from HB.out.trans ((show Below _ _ _ from (((Below.refl _ _).alloc (by first | omega | (simp; done) | (simp <;> omega)) _).alloc (by first | omega | (simp; done) | (simp <;> omega)) _)).trans (hb.mono (by first | omega | (simp <;> omega)))))
    have Ha : Hid (w1.rangeAt (w.heap.size) 0 [.int .i64 a.a.re, .int .i64 a.a.im, .int .i64 a.a.den, .int .i64 a.b.re, .int .i64 a.b.im, .int .i64 a.b.den, .int .i64 a.c.re, .int .i64 a.c.im, .int .i64 a.c.den, .int .i64 a.d.re, .int .i64 a.d.im, .int .i64 a.d.den]) := rangeAt_below (World.rangeAt_alloc (rangeAt_new _ _ _) _) hb (by first | omega | (simp; done) | (simp <;> omega))
    have HR := Lib.hid ((show Room _ (w.heap.size + 1) 2 from (Room.new' (by simp) rfl)).below hb (by first | omega | (simp <;> omega)))
    have hz1 := hb.size
    (try simp at hz1)
    clear hb
    have nA0 : w.heap.size < w1.heap.size := by omega
    have nB0 : ¬ w.heap.size = w1.heap.size := by omega
    have nC0 : ¬ w1.heap.size = w.heap.size := by omega
    have nA1 : w.heap.size + 1 < w1.heap.size := by omega
    have nB1 : ¬ w.heap.size + 1 = w1.heap.size := by omega
    have nC1 : ¬ w1.heap.size = w.heap.size + 1 := by omega
    have hth := (show Room w1 (w.heap.size + 1) 2 from HR.out).there
    go_wp2_with (first | ((with_reducible refine wpList_store_mid ?kl21 47 ?kl2x ?kl2y ?kl22 (w.heap.size + 1) 0 #[.int .i64 0, .int .i64 0, .int .i64 0, .int .i64 0, .int .i64 0, .int .i64 0] ?kl23 ?kl24 ?kl25 ?kl26 ?kl27 ?kl28); (case kl22 => rfl); (case kl21 => rfl); (case kl23 => rfl); (case kl24 => rfl); (case kl25 => exact hth); (case kl26 => kernel_rfl); (case kl27 => exact (by simp [Value.oneCell']))))
    refine bodyPost_ret (v := .tuple #[.agg #[.int .i64 0, .int .i64 0, .int .i64 0, .int .i64 0, .int .i64 0, .int .i64 0], .bool false]) ?_ rfl (J2Out.no HG.out ?_)
    · exact Eq.trans (results_cell_mid2 Tryd.results26 _ _ (w.heap.size + 1) [.int .i64 0, .int .i64 0, .int .i64 0, .int .i64 0, .int .i64 0, .int .i64 0] _ (by rfl) (World.rangeAt_setCells_same _ (w.heap.size + 1) 0 [.int .i64 0, .int .i64 0, .int .i64 0, .int .i64 0, .int .i64 0, .int .i64 0] hth) Tryd.underlying47 rfl (by kernel_rfl)) rfl
    · (repeat' first | (with_reducible exact HB.out) | with_reducible refine setCells_below _ _ _ ?_ (by first | omega | (simp <;> omega)) | with_reducible refine Below.setCell ?_ (by show _ ≤ _; first | omega | (simp <;> omega) | simp) _ | with_reducible refine Below.alloc ?_ (by first | omega | (simp <;> omega)) _ | with_reducible apply Below.drew | with_reducible refine below_drewN ?_ _)
  · skip
    cases hz : m4B a mZ
    · skip
      have hE : ∀ w, (Op.equalIn 10000 39 (.agg #[.int .i64 a.a.re, .int .i64 a.a.im, .int .i64 a.a.den, .int .i64 a.b.re, .int .i64 a.b.im, .int .i64 a.b.den, .int .i64 a.c.re, .int .i64 a.c.im, .int .i64 a.c.den, .int .i64 a.d.re, .int .i64 a.d.im, .int .i64 a.d.den]) (.agg #[.int .i64 0, .int .i64 0, .int .i64 1, .int .i64 0, .int .i64 0, .int .i64 1, .int .i64 0, .int .i64 0, .int .i64 1, .int .i64 0, .int .i64 0, .int .i64 1])).run Tryd.prog w = .ok false w := fun w => by have := eqArr_run a mZ 9997 w; rw [hz] at this; exact this
      obtain ⟨x, p, hx⟩ : ∃ x p, fAdd a.a a.b = (x, p) := ⟨_, _, rfl⟩
      have HF := Lib.hid (gVec_f hp hz hx)
      have HZ := Lib.hid (gVec_z hp hz hx)
      have HN := Lib.hid (gVec_n hp hz hx)
      have HX := Lib.hid hx
      have HP := Lib.hid hp
      have ht2 : gPure a = true → fTimes f2' a.a = ((low (2 * a.a.re) 0 a.a.den).1, true) := fun h => (twice_ok (all4_iff.1 (pure_parts h).1).1 (pure_parts h).2.1).2
      have HTW := Lib.hid (show (fTimes f2' a.a).2 = true by rw [ht2 hp])
      have hdi := fun h : gPure a = true => turn_i (realB_iff.1 (all4_iff.1 (pure_parts h).1).2.2.2).1
      have HTI := Lib.hid (show (fTimes a.d pI).2 = true by rw [hdi hp])
      clear hx hz hp ht2 hdi
      have HB : Hid (Below w.heap.size w w) := Below.refl _ _
      have HG_zero := Lib.hid hg_zero; clear hg_zero
      have HG_unit := Lib.hid hg_unit; clear hg_unit
      go_enter Tryd.func26, Tryd.ntmps26
      go_wp2_with (first | ((with_reducible refine wpList_load_mid ?kl31 51 ?kl3x ?kl32 (w.heap.size) 0 ?kl33 [.int .i64 a.a.re, .int .i64 a.a.im, .int .i64 a.a.den, .int .i64 a.b.re, .int .i64 a.b.im, .int .i64 a.b.den, .int .i64 a.c.re, .int .i64 a.c.im, .int .i64 a.c.den, .int .i64 a.d.re, .int .i64 a.d.im, .int .i64 a.d.den] ?kl3d ?kl34 ?kl35 ?kl36 ?kl37 ?kl38); (case kl32 => rfl); (case kl31 => rfl); (case kl33 => rfl); (case kl34 => (exact (World.rangeAt_alloc (rangeAt_new _ _ _) _))); (case kl35 => exact Tryd.underlying51); (case kl36 => rfl); (case kl37 => kernel_rfl)))
      refine (ipure_any a _).mono ?_
      rintro e w1 ho
      rw [HP.out] at ho
      obtain ⟨rfl, hb⟩ : e = .returned (.bool true) ∧ Below _ _ _ := (id ho)
      clear ho
      have HB := Lib.hid (show Below w.heap.size w w1 from HB.out.trans ((show Below _ _ _ from (((Below.refl _ _).alloc (by first | omega | (simp; done) | (simp <;> omega)) _).alloc (by first | omega | (simp; done) | (simp <;> omega)) _)).trans (hb.mono (by first | omega | (simp <;> omega)))))
      have Ha : Hid (w1.rangeAt (w.heap.size) 0 [.int .i64 a.a.re, .int .i64 a.a.im, .int .i64 a.a.den, .int .i64 a.b.re, .int .i64 a.b.im, .int .i64 a.b.den, .int .i64 a.c.re, .int .i64 a.c.im, .int .i64 a.c.den, .int .i64 a.d.re, .int .i64 a.d.im, .int .i64 a.d.den]) := rangeAt_below (World.rangeAt_alloc (rangeAt_new _ _ _) _) hb (by first | omega | (simp; done) | (simp <;> omega))
      have HR := Lib.hid ((show Room _ (w.heap.size + 1) 2 from (Room.new' (by simp) rfl)).below hb (by first | omega | (simp <;> omega)))
      have hz1 := hb.size
      (try simp at hz1)
      clear hb
      have nA0 : w.heap.size < w1.heap.size := by omega
      have nB0 : ¬ w.heap.size = w1.heap.size := by omega
      have nC0 : ¬ w1.heap.size = w.heap.size := by omega
      have nA1 : w.heap.size + 1 < w1.heap.size := by omega
      have nB1 : ¬ w.heap.size + 1 = w1.heap.size := by omega
      have nC1 : ¬ w1.heap.size = w.heap.size + 1 := by omega
      have za_0 : w1.cell? ⟨w.heap.size, 0, none⟩ = some (.int .i64 a.a.re) := by have := Ha.out 0 _ rfl; rwa [Nat.zero_add] at this
      have za_1 : w1.cell? ⟨w.heap.size, 1, none⟩ = some (.int .i64 a.a.im) := by have := Ha.out 1 _ rfl; rwa [Nat.zero_add] at this
      have za_2 : w1.cell? ⟨w.heap.size, 2, none⟩ = some (.int .i64 a.a.den) := by have := Ha.out 2 _ rfl; rwa [Nat.zero_add] at this
      have za_3 : w1.cell? ⟨w.heap.size, 3, none⟩ = some (.int .i64 a.b.re) := by have := Ha.out 3 _ rfl; rwa [Nat.zero_add] at this
      have za_4 : w1.cell? ⟨w.heap.size, 4, none⟩ = some (.int .i64 a.b.im) := by have := Ha.out 4 _ rfl; rwa [Nat.zero_add] at this
      have za_5 : w1.cell? ⟨w.heap.size, 5, none⟩ = some (.int .i64 a.b.den) := by have := Ha.out 5 _ rfl; rwa [Nat.zero_add] at this
      have za_6 : w1.cell? ⟨w.heap.size, 6, none⟩ = some (.int .i64 a.c.re) := by have := Ha.out 6 _ rfl; rwa [Nat.zero_add] at this
      have za_7 : w1.cell? ⟨w.heap.size, 7, none⟩ = some (.int .i64 a.c.im) := by have := Ha.out 7 _ rfl; rwa [Nat.zero_add] at this
      have za_8 : w1.cell? ⟨w.heap.size, 8, none⟩ = some (.int .i64 a.c.den) := by have := Ha.out 8 _ rfl; rwa [Nat.zero_add] at this
      have za_9 : w1.cell? ⟨w.heap.size, 9, none⟩ = some (.int .i64 a.d.re) := by have := Ha.out 9 _ rfl; rwa [Nat.zero_add] at this
      have za_10 : w1.cell? ⟨w.heap.size, 10, none⟩ = some (.int .i64 a.d.im) := by have := Ha.out 10 _ rfl; rwa [Nat.zero_add] at this
      have za_11 : w1.cell? ⟨w.heap.size, 11, none⟩ = some (.int .i64 a.d.den) := by have := Ha.out 11 _ rfl; rwa [Nat.zero_add] at this
      have hgv_zero := (HG_zero.out.below HB.out)
      have vzero_0 : w1.cell? ⟨1, 0, none⟩ = some (.int .i64 0) := (hgv_zero.box 0 (by omega)).1
      have vzero_1 : w1.cell? ⟨1, 1, none⟩ = some (.int .i64 0) := (hgv_zero.box 0 (by omega)).2.1
      have vzero_2 : w1.cell? ⟨1, 2, none⟩ = some (.int .i64 1) := (hgv_zero.box 0 (by omega)).2.2
      have hlv_zero : ¬ 1 = w1.heap.size := by have := hgv_zero.lt; omega
      have hlw_zero : ¬ w1.heap.size = 1 := by have := hgv_zero.lt; omega
      have hlx_zero : ¬ w1.heap = #[] := fun h => by have := hgv_zero.lt; rw [h] at this; exact absurd this (Nat.not_lt_zero _)
      have hly_zero : 0 < w1.heap.size := by have := hgv_zero.lt; omega
      have hlk_zero : 1 < w1.heap.size := by have := hgv_zero.lt; omega
      clear hgv_zero
      have K0 : Hid (CK w (w1.heap.size) (w.heap.size + 1) 2 false (w1.heap.size + 1) [(w.heap.size, 4, a.get), (2, 1, ixF pI), (1, 1, ixF f0)] (w1.alloc (.cells #[.bool false] 102))) := by
        show CK _ _ _ _ _ _ _ _
        have hgu := HG_unit.out.below HB.out
        have hgz := HG_zero.out.below HB.out
        refine ⟨HB.out.alloc (by omega) _, by omega, by omega, by omega, by omega, by omega, by simp, by simp [go_sem], by simp [go_sem], HR.out.alloc (by omega) _, fun e he => ?_⟩
        rcases List.mem_cons.1 he with rfl | he
        · exact ⟨by show w.heap.size < _; omega, ⟨by show w.heap.size ≠ _; omega, by show w.heap.size ≠ _; omega⟩, (BoxAt.of4 Ha.out).alloc (by omega) _⟩
        have hu0 := HG_unit.out.lt
        have hz0 := HG_zero.out.lt
        rcases List.mem_cons.1 he with rfl | he
        · exact ⟨by show 2 < _; omega, ⟨by show 2 ≠ _; omega, by show 2 ≠ _; omega⟩, hgu.box.alloc hgu.lt _⟩
        · obtain rfl := List.mem_singleton.1 he
          exact ⟨by show 1 < _; omega, ⟨by show 1 ≠ _; omega, by show 1 ≠ _; omega⟩, hgz.box.alloc hgz.lt _⟩
      go_wp2_with fail
      refine (sadd_any (w1.heap.size) false a.a a.b _ (by simp) (by simp [go_sem]) (by simp [go_sem])).mono ?_
      rintro e w2 ho
      rw [HX.out] at ho
      obtain ⟨rfl, hs⟩ := ho.fn
      have K1 := Lib.hid (K0.out.sm hs)
      have hz2 := hs.size
      (try simp at hz2)
      clear ho hs
      have hB1 := K1.out.hB
      have hsc := K1.out.cell
      have hgz := (K1.out.box (1, 1, ixF f0) (by simp)).2.2
      obtain ⟨z0, z1, z2⟩ : w2.cell? ⟨1, 0, none⟩ = some (.int .i64 0) ∧ w2.cell? ⟨1, 1, none⟩ = some (.int .i64 0) ∧ w2.cell? ⟨1, 2, none⟩ = some (.int .i64 1) := hgz 0 (by show 0 < 1; omega)
      clear hgz
      have n0 : ¬ w1.heap.size = w2.heap.size := by omega
      have n1 : ¬ w2.heap.size = w1.heap.size := by omega
      have n2 : ¬ w.heap.size = w2.heap.size := by omega
      have n3 : ¬ w.heap.size + 1 = w2.heap.size := by omega
      have n4 : ¬ w2.heap.size = w.heap.size + 1 := by omega
      have n5 : ¬ 1 = w2.heap.size := by have := (K1.out.box (1, 1, ixF f0) (by simp)).1; have h : 1 < w1.heap.size + 1 := this; omega
      have n6 : ¬ w2.heap.size = 1 := fun h => n5 h.symm
      have n7 : ¬ w2.heap = #[] := fun h => absurd (show (0 : Nat) < 0 from (by have hh : 0 < w2.heap.size := (by omega); rw [h] at hh; exact hh)) (Nat.not_lt_zero _)
      cases p
      · skip
        have hsd : (w2.alloc (.cells #[.int .i64 x.re, .int .i64 x.im, .int .i64 x.den] 23)).cell? ⟨w1.heap.size, 0, none⟩ = some (.bool true) := (show CK w (w1.heap.size) (w.heap.size + 1) 2 true (w1.heap.size + 1) [(w.heap.size, 4, a.get), (2, 1, ixF pI), (1, 1, ixF f0)] (w2.alloc (.cells #[.int .i64 x.re, .int .i64 x.im, .int .i64 x.den] 23)) from K1.out.alloc _).cell
        have HG := Lib.hid (HF.out rfl)
        have hth := (show Room (w2.alloc (.cells #[.int .i64 x.re, .int .i64 x.im, .int .i64 x.den] 23)) (w.heap.size + 1) 2 from K1.out.room.alloc (by omega) _).there
        go_wp2_with (first | ((with_reducible refine wpList_store_mid ?kl41 47 ?kl4x ?kl4y ?kl42 (w.heap.size + 1) 0 #[.int .i64 0, .int .i64 0, .int .i64 0, .int .i64 0, .int .i64 0, .int .i64 0] ?kl43 ?kl44 ?kl45 ?kl46 ?kl47 ?kl48); (case kl42 => rfl); (case kl41 => rfl); (case kl43 => rfl); (case kl44 => rfl); (case kl45 => exact hth); (case kl46 => kernel_rfl); (case kl47 => exact (by simp [Value.oneCell']))))
        refine bodyPost_ret (v := .tuple #[.agg #[.int .i64 0, .int .i64 0, .int .i64 0, .int .i64 0, .int .i64 0, .int .i64 0], .bool false]) ?_ rfl (J2Out.no HG.out ?_)
        · exact Eq.trans (results_cell_mid2 Tryd.results26 _ _ (w.heap.size + 1) [.int .i64 0, .int .i64 0, .int .i64 0, .int .i64 0, .int .i64 0, .int .i64 0] _ (by rfl) (World.rangeAt_setCells_same _ (w.heap.size + 1) 0 [.int .i64 0, .int .i64 0, .int .i64 0, .int .i64 0, .int .i64 0, .int .i64 0] hth) Tryd.underlying47 rfl (by kernel_rfl)) rfl
        · exact setCells_below _ _ _ (K1.out.below.alloc (by omega) _) (by omega)
      · skip
        have hsc : w2.cell? ⟨w1.heap.size, 0, none⟩ = some (.bool false) := hsc
        obtain ⟨y0, y1, y2⟩ : (w2.alloc (.cells #[.int .i64 x.re, .int .i64 x.im, .int .i64 x.den] 23)).cell? ⟨1, 0, none⟩ = some (.int .i64 0) ∧ (w2.alloc (.cells #[.int .i64 x.re, .int .i64 x.im, .int .i64 x.den] 23)).cell? ⟨1, 1, none⟩ = some (.int .i64 0) ∧ (w2.alloc (.cells #[.int .i64 x.re, .int .i64 x.im, .int .i64 x.den] 23)).cell? ⟨1, 2, none⟩ = some (.int .i64 1) := ((show CK w (w1.heap.size) (w.heap.size + 1) 2 false (w1.heap.size + 1) [(w.heap.size, 4, a.get), (2, 1, ixF pI), (1, 1, ixF f0)] (w2.alloc (.cells #[.int .i64 x.re, .int .i64 x.im, .int .i64 x.den] 23)) from K1.out.alloc _).box (1, 1, ixF f0) (by simp)).2.2 0 (by show 0 < 1; omega)
        have hsd : (w2.alloc (.cells #[.int .i64 x.re, .int .i64 x.im, .int .i64 x.den] 23)).cell? ⟨w1.heap.size, 0, none⟩ = some (.bool false) := (show CK w (w1.heap.size) (w.heap.size + 1) 2 false (w1.heap.size + 1) [(w.heap.size, 4, a.get), (2, 1, ixF pI), (1, 1, ixF f0)] (w2.alloc (.cells #[.int .i64 x.re, .int .i64 x.im, .int .i64 x.den] 23)) from K1.out.alloc _).cell
        have K2 : Hid (CK w (w1.heap.size) (w.heap.size + 1) 2 false (w2.alloc (.cells #[.int .i64 x.re, .int .i64 x.im, .int .i64 x.den] 23)).heap.size [(w2.heap.size, 1, fun _ => x), (w.heap.size, 4, a.get), (2, 1, ixF pI), (1, 1, ixF f0)] (w2.alloc (.cells #[.int .i64 x.re, .int .i64 x.im, .int .i64 x.den] 23))) := by
          show CK _ _ _ _ _ _ _ _
          exact (show CK w (w1.heap.size) (w.heap.size + 1) 2 false (w1.heap.size + 1) [(w.heap.size, 4, a.get), (2, 1, ixF pI), (1, 1, ixF f0)] (w2.alloc (.cells #[.int .i64 x.re, .int .i64 x.im, .int .i64 x.den] 23)) from K1.out.alloc _).more (by omega) (by simp) (boxN rfl)
        have hEx : ∀ w, (Op.equalIn 10000 23 (.agg #[.int .i64 x.re, .int .i64 x.im, .int .i64 x.den]) (.agg #[.int .i64 0, .int .i64 0, .int .i64 1])).run Tryd.prog w = .ok (frB x f0) w := eqFr_run x f0 9998
        cases hf : frB x f0
        · skip
          have hg := HN.out rfl hf
          rw [hf] at hEx
          clear hf
          go_wp2
          obtain ⟨V, hV⟩ : ∃ V, V = (w2.alloc (.cells #[.int .i64 x.re, .int .i64 x.im, .int .i64 x.den] 23)) := ⟨_, rfl⟩
          rw [← hV] at K2
          (try rw [← hV])
          clear hV
          have K2 := Lib.hid K2.out.drew
          have hmX : (w2.heap.size, 1, fun _ => x) ∈ [(w2.heap.size, 1, fun _ => x), (w.heap.size, 4, a.get), (2, 1, ixF pI), (1, 1, ixF f0)] := by simp
          have hmA : (w.heap.size, 4, a.get) ∈ [(w2.heap.size, 1, fun _ => x), (w.heap.size, 4, a.get), (2, 1, ixF pI), (1, 1, ixF f0)] := by simp
          have hmU : (2, 1, ixF pI) ∈ [(w2.heap.size, 1, fun _ => x), (w.heap.size, 4, a.get), (2, 1, ixF pI), (1, 1, ixF f0)] := by simp
          cases ho : (fLess a.c (fTimes a.d pI).1).2
          · skip
            have HE : Hid (((false || !(fTimes a.d pI).2) || !(fLess a.c (fTimes a.d pI).1).2) = true) := by show _ = _; rw [HTI.out, ho]; rfl
            have HG : Hid (gVec a = (j2z, false)) := by show _ = _; rw [hg, ho]; rfl
            clear hg ho
            go_region_held3 (fun w' => w'.cell? ⟨w2.heap.size, 0, none⟩ = some (.int .i64 x.re) ∧ w'.cell? ⟨w2.heap.size, 1, none⟩ = some (.int .i64 x.im) ∧ w'.cell? ⟨w2.heap.size, 2, none⟩ = some (.int .i64 x.den) ∧ w'.cell? ⟨w.heap.size, 6, none⟩ = some (.int .i64 a.c.re) ∧ w'.cell? ⟨w.heap.size, 7, none⟩ = some (.int .i64 a.c.im) ∧ w'.cell? ⟨w.heap.size, 8, none⟩ = some (.int .i64 a.c.den) ∧ w'.cell? ⟨w.heap.size, 9, none⟩ = some (.int .i64 a.d.re) ∧ w'.cell? ⟨w.heap.size, 10, none⟩ = some (.int .i64 a.d.im) ∧ w'.cell? ⟨w.heap.size, 11, none⟩ = some (.int .i64 a.d.den) ∧ w'.cell? ⟨2, 0, none⟩ = some (.int .i64 0) ∧ w'.cell? ⟨2, 1, none⟩ = some (.int .i64 1) ∧ w'.cell? ⟨2, 2, none⟩ = some (.int .i64 1)) (((try dsimp only); (first | (with_reducible refine cells_v8 (v := false) (w := w) (P := w1.heap.size) (R := w.heap.size + 1) (nz := 2) (B := V.heap.size) (L := [(w2.heap.size, 1, fun _ => x), (w.heap.size, 4, a.get), (2, 1, ixF pI), (1, 1, ixF f0)]) hmX hmA hmU ?_; (focus ((repeat' first | (with_reducible exact K9.out) | (with_reducible exact K8.out) | (with_reducible exact K7.out) | (with_reducible exact K6.out) | (with_reducible exact K5.out) | (with_reducible exact K4.out) | (with_reducible exact K3.out) | (with_reducible exact K2.out) | (with_reducible exact K1.out) | (with_reducible exact K0.out) | (with_reducible refine CK.alloc ?_ _) | (with_reducible refine CK.drew ?_) | (with_reducible refine CK.setR ?_ _) | (with_reducible refine CK.set ?_ ?_ _; rotate_left; (focus (first | omega | (simp <;> omega))))); done))) | (with_reducible refine cells_v8 (v := (false || !(fTimes a.d pI).2)) (w := w) (P := w1.heap.size) (R := w.heap.size + 1) (nz := 2) (B := V.heap.size) (L := [(w2.heap.size, 1, fun _ => x), (w.heap.size, 4, a.get), (2, 1, ixF pI), (1, 1, ixF f0)]) hmX hmA hmU ?_; (focus ((repeat' first | (with_reducible exact K9.out) | (with_reducible exact K8.out) | (with_reducible exact K7.out) | (with_reducible exact K6.out) | (with_reducible exact K5.out) | (with_reducible exact K4.out) | (with_reducible exact K3.out) | (with_reducible exact K2.out) | (with_reducible exact K1.out) | (with_reducible exact K0.out) | (with_reducible refine CK.alloc ?_ _) | (with_reducible refine CK.drew ?_) | (with_reducible refine CK.setR ?_ _) | (with_reducible refine CK.set ?_ ?_ _; rotate_left; (focus (first | omega | (simp <;> omega))))); done))) | (with_reducible refine cells_v8 (v := ((false || !(fTimes a.d pI).2) || !(fLess a.c (fTimes a.d pI).1).2)) (w := w) (P := w1.heap.size) (R := w.heap.size + 1) (nz := 2) (B := V.heap.size) (L := [(w2.heap.size, 1, fun _ => x), (w.heap.size, 4, a.get), (2, 1, ixF pI), (1, 1, ixF f0)]) hmX hmA hmU ?_; (focus ((repeat' first | (with_reducible exact K9.out) | (with_reducible exact K8.out) | (with_reducible exact K7.out) | (with_reducible exact K6.out) | (with_reducible exact K5.out) | (with_reducible exact K4.out) | (with_reducible exact K3.out) | (with_reducible exact K2.out) | (with_reducible exact K1.out) | (with_reducible exact K0.out) | (with_reducible refine CK.alloc ?_ _) | (with_reducible refine CK.drew ?_) | (with_reducible refine CK.setR ?_ _) | (with_reducible refine CK.set ?_ ?_ _; rotate_left; (focus (first | omega | (simp <;> omega))))); done)))))) (first | (go_at_call 79; (with_reducible refine Calls.mono (ck_call (v := (false || !(fTimes a.d pI).2)) (w := w) (P := w1.heap.size) (R := w.heap.size + 1) (nz := 2) (B := V.heap.size) (L := [(w2.heap.size, 1, fun _ => x), (w.heap.size, 4, a.get), (2, 1, ixF pI), (1, 1, ixF f0)]) ?_ (sless_any (w1.heap.size) (false || !(fTimes a.d pI).2) a.c (fTimes a.d pI).1 _)) ?_); (focus ((repeat' first | (with_reducible exact K9.out) | (with_reducible exact K8.out) | (with_reducible exact K7.out) | (with_reducible exact K6.out) | (with_reducible exact K5.out) | (with_reducible exact K4.out) | (with_reducible exact K3.out) | (with_reducible exact K2.out) | (with_reducible exact K1.out) | (with_reducible exact K0.out) | (with_reducible refine CK.alloc ?_ _) | (with_reducible refine CK.drew ?_) | (with_reducible refine CK.setR ?_ _) | (with_reducible refine CK.set ?_ ?_ _; rotate_left; (focus (first | omega | (simp <;> omega))))); done)); rintro e wv4 ⟨rfl, hs, hK⟩; have K4 := Lib.hid hK; clear hs hK) | (go_at_call 80; (with_reducible refine Calls.mono (ck_call (v := false) (w := w) (P := w1.heap.size) (R := w.heap.size + 1) (nz := 2) (B := V.heap.size) (L := [(w2.heap.size, 1, fun _ => x), (w.heap.size, 4, a.get), (2, 1, ixF pI), (1, 1, ixF f0)]) ?_ (stimes_any (w1.heap.size) false a.d pI _)) ?_); (focus ((repeat' first | (with_reducible exact K9.out) | (with_reducible exact K8.out) | (with_reducible exact K7.out) | (with_reducible exact K6.out) | (with_reducible exact K5.out) | (with_reducible exact K4.out) | (with_reducible exact K3.out) | (with_reducible exact K2.out) | (with_reducible exact K1.out) | (with_reducible exact K0.out) | (with_reducible refine CK.alloc ?_ _) | (with_reducible refine CK.drew ?_) | (with_reducible refine CK.setR ?_ _) | (with_reducible refine CK.set ?_ ?_ _; rotate_left; (focus (first | omega | (simp <;> omega))))); done)); rintro e wv3 ⟨rfl, hs, hK⟩; have K3 := Lib.hid hK; clear hs hK) | (go_at_call 78; (with_reducible refine (gotJones_no (w1.heap.size) ⟨x, (fLess a.c (fTimes a.d pI).1).1⟩ _ (Nat.lt_of_lt_of_le K4.out.hP K4.out.hB) (K4.out.cell.trans (congrArg (fun x => some (Value.bool x)) HE.out))).mono ?_); rintro e wv5 ⟨rfl, hb⟩; have K5 := Lib.hid (K4.out.next hb); obtain ⟨yq0, eq0⟩ := Option.isSome_iff_exists.1 (K5.out.room 0 (by omega)).1; have fq0 := (K5.out.room 0 (by omega)).2; obtain ⟨yq1, eq1⟩ := Option.isSome_iff_exists.1 (K5.out.room 1 (by omega)).1; have fq1 := (K5.out.room 1 (by omega)).2; obtain ⟨yq2, eq2⟩ := Option.isSome_iff_exists.1 (K5.out.room 2 (by omega)).1; have fq2 := (K5.out.room 2 (by omega)).2; obtain ⟨yq3, eq3⟩ := Option.isSome_iff_exists.1 (K5.out.room 3 (by omega)).1; have fq3 := (K5.out.room 3 (by omega)).2; obtain ⟨yq4, eq4⟩ := Option.isSome_iff_exists.1 (K5.out.room 4 (by omega)).1; have fq4 := (K5.out.room 4 (by omega)).2; obtain ⟨yq5, eq5⟩ := Option.isSome_iff_exists.1 (K5.out.room 5 (by omega)).1; have fq5 := (K5.out.room 5 (by omega)).2; clear hb))
            go_wp2
            refine bodyPost_ret (v := .tuple #[.agg #[.int .i64 0, .int .i64 0, .int .i64 0, .int .i64 0, .int .i64 0, .int .i64 0], .bool false]) (by simp [results, Tryd.results26, go_sem, *]) rfl (J2Out.no HG.out ?_)
            exact (((((K5.out.setR _).setR _).setR _).setR _).setR _).setR _ |>.below
          · skip
            have HE : Hid (((false || !(fTimes a.d pI).2) || !(fLess a.c (fTimes a.d pI).1).2) = false) := by show _ = _; rw [HTI.out, ho]; rfl
            have HG : Hid (gVec a = (⟨x, (fLess a.c (fTimes a.d pI).1).1⟩, true)) := by show _ = _; rw [hg, ho]; rfl
            clear hg ho
            go_region_held3 (fun w' => w'.cell? ⟨w2.heap.size, 0, none⟩ = some (.int .i64 x.re) ∧ w'.cell? ⟨w2.heap.size, 1, none⟩ = some (.int .i64 x.im) ∧ w'.cell? ⟨w2.heap.size, 2, none⟩ = some (.int .i64 x.den) ∧ w'.cell? ⟨w.heap.size, 6, none⟩ = some (.int .i64 a.c.re) ∧ w'.cell? ⟨w.heap.size, 7, none⟩ = some (.int .i64 a.c.im) ∧ w'.cell? ⟨w.heap.size, 8, none⟩ = some (.int .i64 a.c.den) ∧ w'.cell? ⟨w.heap.size, 9, none⟩ = some (.int .i64 a.d.re) ∧ w'.cell? ⟨w.heap.size, 10, none⟩ = some (.int .i64 a.d.im) ∧ w'.cell? ⟨w.heap.size, 11, none⟩ = some (.int .i64 a.d.den) ∧ w'.cell? ⟨2, 0, none⟩ = some (.int .i64 0) ∧ w'.cell? ⟨2, 1, none⟩ = some (.int .i64 1) ∧ w'.cell? ⟨2, 2, none⟩ = some (.int .i64 1)) (((try dsimp only); (first | (with_reducible refine cells_v8 (v := false) (w := w) (P := w1.heap.size) (R := w.heap.size + 1) (nz := 2) (B := V.heap.size) (L := [(w2.heap.size, 1, fun _ => x), (w.heap.size, 4, a.get), (2, 1, ixF pI), (1, 1, ixF f0)]) hmX hmA hmU ?_; (focus ((repeat' first | (with_reducible exact K9.out) | (with_reducible exact K8.out) | (with_reducible exact K7.out) | (with_reducible exact K6.out) | (with_reducible exact K5.out) | (with_reducible exact K4.out) | (with_reducible exact K3.out) | (with_reducible exact K2.out) | (with_reducible exact K1.out) | (with_reducible exact K0.out) | (with_reducible refine CK.alloc ?_ _) | (with_reducible refine CK.drew ?_) | (with_reducible refine CK.setR ?_ _) | (with_reducible refine CK.set ?_ ?_ _; rotate_left; (focus (first | omega | (simp <;> omega))))); done))) | (with_reducible refine cells_v8 (v := (false || !(fTimes a.d pI).2)) (w := w) (P := w1.heap.size) (R := w.heap.size + 1) (nz := 2) (B := V.heap.size) (L := [(w2.heap.size, 1, fun _ => x), (w.heap.size, 4, a.get), (2, 1, ixF pI), (1, 1, ixF f0)]) hmX hmA hmU ?_; (focus ((repeat' first | (with_reducible exact K9.out) | (with_reducible exact K8.out) | (with_reducible exact K7.out) | (with_reducible exact K6.out) | (with_reducible exact K5.out) | (with_reducible exact K4.out) | (with_reducible exact K3.out) | (with_reducible exact K2.out) | (with_reducible exact K1.out) | (with_reducible exact K0.out) | (with_reducible refine CK.alloc ?_ _) | (with_reducible refine CK.drew ?_) | (with_reducible refine CK.setR ?_ _) | (with_reducible refine CK.set ?_ ?_ _; rotate_left; (focus (first | omega | (simp <;> omega))))); done))) | (with_reducible refine cells_v8 (v := ((false || !(fTimes a.d pI).2) || !(fLess a.c (fTimes a.d pI).1).2)) (w := w) (P := w1.heap.size) (R := w.heap.size + 1) (nz := 2) (B := V.heap.size) (L := [(w2.heap.size, 1, fun _ => x), (w.heap.size, 4, a.get), (2, 1, ixF pI), (1, 1, ixF f0)]) hmX hmA hmU ?_; (focus ((repeat' first | (with_reducible exact K9.out) | (with_reducible exact K8.out) | (with_reducible exact K7.out) | (with_reducible exact K6.out) | (with_reducible exact K5.out) | (with_reducible exact K4.out) | (with_reducible exact K3.out) | (with_reducible exact K2.out) | (with_reducible exact K1.out) | (with_reducible exact K0.out) | (with_reducible refine CK.alloc ?_ _) | (with_reducible refine CK.drew ?_) | (with_reducible refine CK.setR ?_ _) | (with_reducible refine CK.set ?_ ?_ _; rotate_left; (focus (first | omega | (simp <;> omega))))); done)))))) (first | (go_at_call 79; (with_reducible refine Calls.mono (ck_call (v := (false || !(fTimes a.d pI).2)) (w := w) (P := w1.heap.size) (R := w.heap.size + 1) (nz := 2) (B := V.heap.size) (L := [(w2.heap.size, 1, fun _ => x), (w.heap.size, 4, a.get), (2, 1, ixF pI), (1, 1, ixF f0)]) ?_ (sless_any (w1.heap.size) (false || !(fTimes a.d pI).2) a.c (fTimes a.d pI).1 _)) ?_); (focus ((repeat' first | (with_reducible exact K9.out) | (with_reducible exact K8.out) | (with_reducible exact K7.out) | (with_reducible exact K6.out) | (with_reducible exact K5.out) | (with_reducible exact K4.out) | (with_reducible exact K3.out) | (with_reducible exact K2.out) | (with_reducible exact K1.out) | (with_reducible exact K0.out) | (with_reducible refine CK.alloc ?_ _) | (with_reducible refine CK.drew ?_) | (with_reducible refine CK.setR ?_ _) | (with_reducible refine CK.set ?_ ?_ _; rotate_left; (focus (first | omega | (simp <;> omega))))); done)); rintro e wv4 ⟨rfl, hs, hK⟩; have K4 := Lib.hid hK; clear hs hK) | (go_at_call 80; (with_reducible refine Calls.mono (ck_call (v := false) (w := w) (P := w1.heap.size) (R := w.heap.size + 1) (nz := 2) (B := V.heap.size) (L := [(w2.heap.size, 1, fun _ => x), (w.heap.size, 4, a.get), (2, 1, ixF pI), (1, 1, ixF f0)]) ?_ (stimes_any (w1.heap.size) false a.d pI _)) ?_); (focus ((repeat' first | (with_reducible exact K9.out) | (with_reducible exact K8.out) | (with_reducible exact K7.out) | (with_reducible exact K6.out) | (with_reducible exact K5.out) | (with_reducible exact K4.out) | (with_reducible exact K3.out) | (with_reducible exact K2.out) | (with_reducible exact K1.out) | (with_reducible exact K0.out) | (with_reducible refine CK.alloc ?_ _) | (with_reducible refine CK.drew ?_) | (with_reducible refine CK.setR ?_ _) | (with_reducible refine CK.set ?_ ?_ _; rotate_left; (focus (first | omega | (simp <;> omega))))); done)); rintro e wv3 ⟨rfl, hs, hK⟩; have K3 := Lib.hid hK; clear hs hK) | (go_at_call 78; (with_reducible refine (gotJones_yes (w1.heap.size) ⟨x, (fLess a.c (fTimes a.d pI).1).1⟩ _ (Nat.lt_of_lt_of_le K4.out.hP K4.out.hB) (K4.out.cell.trans (congrArg (fun x => some (Value.bool x)) HE.out))).mono ?_); rintro e wv5 ⟨rfl, hb⟩; have K5 := Lib.hid (K4.out.next hb); obtain ⟨yq0, eq0⟩ := Option.isSome_iff_exists.1 (K5.out.room 0 (by omega)).1; have fq0 := (K5.out.room 0 (by omega)).2; obtain ⟨yq1, eq1⟩ := Option.isSome_iff_exists.1 (K5.out.room 1 (by omega)).1; have fq1 := (K5.out.room 1 (by omega)).2; obtain ⟨yq2, eq2⟩ := Option.isSome_iff_exists.1 (K5.out.room 2 (by omega)).1; have fq2 := (K5.out.room 2 (by omega)).2; obtain ⟨yq3, eq3⟩ := Option.isSome_iff_exists.1 (K5.out.room 3 (by omega)).1; have fq3 := (K5.out.room 3 (by omega)).2; obtain ⟨yq4, eq4⟩ := Option.isSome_iff_exists.1 (K5.out.room 4 (by omega)).1; have fq4 := (K5.out.room 4 (by omega)).2; obtain ⟨yq5, eq5⟩ := Option.isSome_iff_exists.1 (K5.out.room 5 (by omega)).1; have fq5 := (K5.out.room 5 (by omega)).2; clear hb))
            go_wp2
            refine bodyPost_ret (v := .tuple #[.agg #[.int .i64 x.re, .int .i64 x.im, .int .i64 x.den, .int .i64 (fLess a.c (fTimes a.d pI).1).1.re, .int .i64 (fLess a.c (fTimes a.d pI).1).1.im, .int .i64 (fLess a.c (fTimes a.d pI).1).1.den], .bool true]) (by simp [results, Tryd.results26, go_sem, *]) rfl (J2Out.yes (f := ⟨x, (fLess a.c (fTimes a.d pI).1).1⟩) (by rw [HG.out]) (by rw [HG.out]) ?_)
            exact (((((K5.out.setR _).setR _).setR _).setR _).setR _).setR _ |>.below
        · skip
          have HG := Lib.hid (HZ.out rfl hf)
          rw [hf] at hEx
          clear hf
          go_wp2
          obtain ⟨V, hV⟩ : ∃ V, V = (w2.alloc (.cells #[.int .i64 x.re, .int .i64 x.im, .int .i64 x.den] 23)) := ⟨_, rfl⟩
          rw [← hV] at K2
          (try rw [← hV])
          clear hV
          have K2 := Lib.hid K2.out.drew
          have hmA : (w.heap.size, 4, a.get) ∈ [(w2.heap.size, 1, fun _ => x), (w.heap.size, 4, a.get), (2, 1, ixF pI), (1, 1, ixF f0)] := by simp
          have hmZ : (1, 1, ixF f0) ∈ [(w2.heap.size, 1, fun _ => x), (w.heap.size, 4, a.get), (2, 1, ixF pI), (1, 1, ixF f0)] := by simp
          have HE : Hid ((false || !(fTimes f2' a.a).2) = false) := by show _ = _; rw [HTW.out]; rfl
          go_region_held3 (fun w' => w'.cell? ⟨w.heap.size, 0, none⟩ = some (.int .i64 a.a.re) ∧ w'.cell? ⟨w.heap.size, 1, none⟩ = some (.int .i64 a.a.im) ∧ w'.cell? ⟨w.heap.size, 2, none⟩ = some (.int .i64 a.a.den) ∧ w'.cell? ⟨1, 0, none⟩ = some (.int .i64 0) ∧ w'.cell? ⟨1, 1, none⟩ = some (.int .i64 0) ∧ w'.cell? ⟨1, 2, none⟩ = some (.int .i64 1)) (((try dsimp only); (first | (with_reducible refine cells_v9 (v := false) (w := w) (P := w1.heap.size) (R := w.heap.size + 1) (nz := 2) (B := V.heap.size) (L := [(w2.heap.size, 1, fun _ => x), (w.heap.size, 4, a.get), (2, 1, ixF pI), (1, 1, ixF f0)]) hmA hmZ ?_; (focus ((repeat' first | (with_reducible exact K9.out) | (with_reducible exact K8.out) | (with_reducible exact K7.out) | (with_reducible exact K6.out) | (with_reducible exact K5.out) | (with_reducible exact K4.out) | (with_reducible exact K3.out) | (with_reducible exact K2.out) | (with_reducible exact K1.out) | (with_reducible exact K0.out) | (with_reducible refine CK.alloc ?_ _) | (with_reducible refine CK.drew ?_) | (with_reducible refine CK.setR ?_ _) | (with_reducible refine CK.set ?_ ?_ _; rotate_left; (focus (first | omega | (simp <;> omega))))); done))) | (with_reducible refine cells_v9 (v := (false || !(fTimes f2' a.a).2)) (w := w) (P := w1.heap.size) (R := w.heap.size + 1) (nz := 2) (B := V.heap.size) (L := [(w2.heap.size, 1, fun _ => x), (w.heap.size, 4, a.get), (2, 1, ixF pI), (1, 1, ixF f0)]) hmA hmZ ?_; (focus ((repeat' first | (with_reducible exact K9.out) | (with_reducible exact K8.out) | (with_reducible exact K7.out) | (with_reducible exact K6.out) | (with_reducible exact K5.out) | (with_reducible exact K4.out) | (with_reducible exact K3.out) | (with_reducible exact K2.out) | (with_reducible exact K1.out) | (with_reducible exact K0.out) | (with_reducible refine CK.alloc ?_ _) | (with_reducible refine CK.drew ?_) | (with_reducible refine CK.setR ?_ _) | (with_reducible refine CK.set ?_ ?_ _; rotate_left; (focus (first | omega | (simp <;> omega))))); done)))))) (first | (go_at_call 80; (with_reducible refine Calls.mono (ck_call (v := false) (w := w) (P := w1.heap.size) (R := w.heap.size + 1) (nz := 2) (B := V.heap.size) (L := [(w2.heap.size, 1, fun _ => x), (w.heap.size, 4, a.get), (2, 1, ixF pI), (1, 1, ixF f0)]) ?_ (stimes_any (w1.heap.size) false ⟨2, 0, 1⟩ a.a _)) ?_); (focus ((repeat' first | (with_reducible exact K9.out) | (with_reducible exact K8.out) | (with_reducible exact K7.out) | (with_reducible exact K6.out) | (with_reducible exact K5.out) | (with_reducible exact K4.out) | (with_reducible exact K3.out) | (with_reducible exact K2.out) | (with_reducible exact K1.out) | (with_reducible exact K0.out) | (with_reducible refine CK.alloc ?_ _) | (with_reducible refine CK.drew ?_) | (with_reducible refine CK.setR ?_ _) | (with_reducible refine CK.set ?_ ?_ _; rotate_left; (focus (first | omega | (simp <;> omega))))); done)); rintro e wv4 ⟨rfl, hs, hK⟩; have K4 : Hid (CK w (w1.heap.size) (w.heap.size + 1) 2 (false || !(fTimes f2' a.a).2) V.heap.size [(w2.heap.size, 1, fun _ => x), (w.heap.size, 4, a.get), (2, 1, ixF pI), (1, 1, ixF f0)] wv4) := hK; clear hs hK) | (go_at_call 65; (with_reducible refine (whole_any 2 _).mono ?_); rintro e wv3 ⟨rfl, hb⟩; have K3 := Lib.hid (K2.out.next hb); clear hb) | (go_at_call 78; (with_reducible refine (gotJones_yes (w1.heap.size) ⟨⟨0, 0, 1⟩, (fTimes ⟨2, 0, 1⟩ a.a).1⟩ _ (Nat.lt_of_lt_of_le K4.out.hP K4.out.hB) (K4.out.cell.trans (congrArg (fun x => some (Value.bool x)) HE.out))).mono ?_); rintro e wv5 ⟨rfl, hb⟩; have K5 := Lib.hid (K4.out.next hb); obtain ⟨yq0, eq0⟩ := Option.isSome_iff_exists.1 (K5.out.room 0 (by omega)).1; have fq0 := (K5.out.room 0 (by omega)).2; obtain ⟨yq1, eq1⟩ := Option.isSome_iff_exists.1 (K5.out.room 1 (by omega)).1; have fq1 := (K5.out.room 1 (by omega)).2; obtain ⟨yq2, eq2⟩ := Option.isSome_iff_exists.1 (K5.out.room 2 (by omega)).1; have fq2 := (K5.out.room 2 (by omega)).2; obtain ⟨yq3, eq3⟩ := Option.isSome_iff_exists.1 (K5.out.room 3 (by omega)).1; have fq3 := (K5.out.room 3 (by omega)).2; obtain ⟨yq4, eq4⟩ := Option.isSome_iff_exists.1 (K5.out.room 4 (by omega)).1; have fq4 := (K5.out.room 4 (by omega)).2; obtain ⟨yq5, eq5⟩ := Option.isSome_iff_exists.1 (K5.out.room 5 (by omega)).1; have fq5 := (K5.out.room 5 (by omega)).2; clear hb))
          go_wp2
          refine bodyPost_ret (v := .tuple #[.agg #[.int .i64 0, .int .i64 0, .int .i64 1, .int .i64 (fTimes ⟨2, 0, 1⟩ a.a).1.re, .int .i64 (fTimes ⟨2, 0, 1⟩ a.a).1.im, .int .i64 (fTimes ⟨2, 0, 1⟩ a.a).1.den], .bool true]) (by simp [results, Tryd.results26, go_sem, *]) rfl (J2Out.yes (f := ⟨f0, (fTimes f2' a.a).1⟩) (by rw [HG.out]) (by rw [HG.out]) ?_)
          exact (((((K5.out.setR _).setR _).setR _).setR _).setR _).setR _ |>.below
    · skip
      have hE : ∀ w, (Op.equalIn 10000 39 (.agg #[.int .i64 a.a.re, .int .i64 a.a.im, .int .i64 a.a.den, .int .i64 a.b.re, .int .i64 a.b.im, .int .i64 a.b.den, .int .i64 a.c.re, .int .i64 a.c.im, .int .i64 a.c.den, .int .i64 a.d.re, .int .i64 a.d.im, .int .i64 a.d.den]) (.agg #[.int .i64 0, .int .i64 0, .int .i64 1, .int .i64 0, .int .i64 0, .int .i64 1, .int .i64 0, .int .i64 0, .int .i64 1, .int .i64 0, .int .i64 0, .int .i64 1])).run Tryd.prog w = .ok true w := fun w => by have := eqArr_run a mZ 9997 w; rw [hz] at this; exact this
      have HG := Lib.hid (gVec_2 hz)
      clear hz
      have HB : Hid (Below w.heap.size w w) := Below.refl _ _
      have HG_zero := Lib.hid hg_zero; clear hg_zero
      have HG_unit := Lib.hid hg_unit; clear hg_unit
      go_enter Tryd.func26, Tryd.ntmps26
      go_wp2_with (first | ((with_reducible refine wpList_load_mid ?kl51 51 ?kl5x ?kl52 (w.heap.size) 0 ?kl53 [.int .i64 a.a.re, .int .i64 a.a.im, .int .i64 a.a.den, .int .i64 a.b.re, .int .i64 a.b.im, .int .i64 a.b.den, .int .i64 a.c.re, .int .i64 a.c.im, .int .i64 a.c.den, .int .i64 a.d.re, .int .i64 a.d.im, .int .i64 a.d.den] ?kl5d ?kl54 ?kl55 ?kl56 ?kl57 ?kl58); (case kl52 => rfl); (case kl51 => rfl); (case kl53 => rfl); (case kl54 => (exact (World.rangeAt_alloc (rangeAt_new _ _ _) _))); (case kl55 => exact Tryd.underlying51); (case kl56 => rfl); (case kl57 => kernel_rfl)))
      refine (ipure_any a _).mono ?_
      rintro e w1 ho
      rw [hp] at ho
      obtain ⟨rfl, hb⟩ : e = .returned (.bool true) ∧ Below _ _ _ := (id ho)
      clear ho
      have HB := Lib.hid (show Below w.heap.size w w1 from HB.out.trans ((show Below _ _ _ from (((Below.refl _ _).alloc (by first | omega | (simp; done) | (simp <;> omega)) _).alloc (by first | omega | (simp; done) | (simp <;> omega)) _)).trans (hb.mono (by first | omega | (simp <;> omega)))))
      have Ha : Hid (w1.rangeAt (w.heap.size) 0 [.int .i64 a.a.re, .int .i64 a.a.im, .int .i64 a.a.den, .int .i64 a.b.re, .int .i64 a.b.im, .int .i64 a.b.den, .int .i64 a.c.re, .int .i64 a.c.im, .int .i64 a.c.den, .int .i64 a.d.re, .int .i64 a.d.im, .int .i64 a.d.den]) := rangeAt_below (World.rangeAt_alloc (rangeAt_new _ _ _) _) hb (by first | omega | (simp; done) | (simp <;> omega))
      have HR := Lib.hid ((show Room _ (w.heap.size + 1) 2 from (Room.new' (by simp) rfl)).below hb (by first | omega | (simp <;> omega)))
      have hz1 := hb.size
      (try simp at hz1)
      clear hb
      have nA0 : w.heap.size < w1.heap.size := by omega
      have nB0 : ¬ w.heap.size = w1.heap.size := by omega
      have nC0 : ¬ w1.heap.size = w.heap.size := by omega
      have nA1 : w.heap.size + 1 < w1.heap.size := by omega
      have nB1 : ¬ w.heap.size + 1 = w1.heap.size := by omega
      have nC1 : ¬ w1.heap.size = w.heap.size + 1 := by omega
      have za_0 : w1.cell? ⟨w.heap.size, 0, none⟩ = some (.int .i64 a.a.re) := by have := Ha.out 0 _ rfl; rwa [Nat.zero_add] at this
      have za_1 : w1.cell? ⟨w.heap.size, 1, none⟩ = some (.int .i64 a.a.im) := by have := Ha.out 1 _ rfl; rwa [Nat.zero_add] at this
      have za_2 : w1.cell? ⟨w.heap.size, 2, none⟩ = some (.int .i64 a.a.den) := by have := Ha.out 2 _ rfl; rwa [Nat.zero_add] at this
      have za_3 : w1.cell? ⟨w.heap.size, 3, none⟩ = some (.int .i64 a.b.re) := by have := Ha.out 3 _ rfl; rwa [Nat.zero_add] at this
      have za_4 : w1.cell? ⟨w.heap.size, 4, none⟩ = some (.int .i64 a.b.im) := by have := Ha.out 4 _ rfl; rwa [Nat.zero_add] at this
      have za_5 : w1.cell? ⟨w.heap.size, 5, none⟩ = some (.int .i64 a.b.den) := by have := Ha.out 5 _ rfl; rwa [Nat.zero_add] at this
      have za_6 : w1.cell? ⟨w.heap.size, 6, none⟩ = some (.int .i64 a.c.re) := by have := Ha.out 6 _ rfl; rwa [Nat.zero_add] at this
      have za_7 : w1.cell? ⟨w.heap.size, 7, none⟩ = some (.int .i64 a.c.im) := by have := Ha.out 7 _ rfl; rwa [Nat.zero_add] at this
      have za_8 : w1.cell? ⟨w.heap.size, 8, none⟩ = some (.int .i64 a.c.den) := by have := Ha.out 8 _ rfl; rwa [Nat.zero_add] at this
      have za_9 : w1.cell? ⟨w.heap.size, 9, none⟩ = some (.int .i64 a.d.re) := by have := Ha.out 9 _ rfl; rwa [Nat.zero_add] at this
      have za_10 : w1.cell? ⟨w.heap.size, 10, none⟩ = some (.int .i64 a.d.im) := by have := Ha.out 10 _ rfl; rwa [Nat.zero_add] at this
      have za_11 : w1.cell? ⟨w.heap.size, 11, none⟩ = some (.int .i64 a.d.den) := by have := Ha.out 11 _ rfl; rwa [Nat.zero_add] at this
      have hgv_zero := (HG_zero.out.below HB.out)
      have vzero_0 : w1.cell? ⟨1, 0, none⟩ = some (.int .i64 0) := (hgv_zero.box 0 (by omega)).1
      have vzero_1 : w1.cell? ⟨1, 1, none⟩ = some (.int .i64 0) := (hgv_zero.box 0 (by omega)).2.1
      have vzero_2 : w1.cell? ⟨1, 2, none⟩ = some (.int .i64 1) := (hgv_zero.box 0 (by omega)).2.2
      have hlv_zero : ¬ 1 = w1.heap.size := by have := hgv_zero.lt; omega
      have hlw_zero : ¬ w1.heap.size = 1 := by have := hgv_zero.lt; omega
      have hlx_zero : ¬ w1.heap = #[] := fun h => by have := hgv_zero.lt; rw [h] at this; exact absurd this (Nat.not_lt_zero _)
      have hly_zero : 0 < w1.heap.size := by have := hgv_zero.lt; omega
      have hlk_zero : 1 < w1.heap.size := by have := hgv_zero.lt; omega
      clear hgv_zero
      have hth := (show Room w1 (w.heap.size + 1) 2 from HR.out).there
      go_wp2_with (first | ((with_reducible refine wpList_store_mid ?kl61 47 ?kl6x ?kl6y ?kl62 (w.heap.size + 1) 0 #[.int .i64 0, .int .i64 0, .int .i64 0, .int .i64 0, .int .i64 0, .int .i64 0] ?kl63 ?kl64 ?kl65 ?kl66 ?kl67 ?kl68); (case kl62 => rfl); (case kl61 => rfl); (case kl63 => rfl); (case kl64 => rfl); (case kl65 => exact hth); (case kl66 => kernel_rfl); (case kl67 => exact (by simp [Value.oneCell']))))
      refine bodyPost_ret (v := .tuple #[.agg #[.int .i64 0, .int .i64 0, .int .i64 0, .int .i64 0, .int .i64 0, .int .i64 0], .bool false]) ?_ rfl (J2Out.no HG.out ?_)
      · exact Eq.trans (results_cell_mid2 Tryd.results26 _ _ (w.heap.size + 1) [.int .i64 0, .int .i64 0, .int .i64 0, .int .i64 0, .int .i64 0, .int .i64 0] _ (by rfl) (World.rangeAt_setCells_same _ (w.heap.size + 1) 0 [.int .i64 0, .int .i64 0, .int .i64 0, .int .i64 0, .int .i64 0, .int .i64 0] hth) Tryd.underlying47 rfl (by kernel_rfl)) rfl
      · (repeat' first | (with_reducible exact HB.out) | with_reducible refine setCells_below _ _ _ ?_ (by first | omega | (simp <;> omega)) | with_reducible refine Below.setCell ?_ (by show _ ≤ _; first | omega | (simp <;> omega) | simp) _ | with_reducible refine Below.alloc ?_ (by first | omega | (simp <;> omega)) _ | with_reducible apply Below.drew | with_reducible refine below_drewN ?_ _)
end Go.Proofs.YtmcokdiopcpifaaDoor
