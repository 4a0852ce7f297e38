/- Contracts: is a matrix lossless? -/
import Derived.Test.YtmcokdiopcpifaaDoorPlNC
import Derived.Test.YtmcokdiopcpifaaDoorPlG19
import Derived.Test.YtmcokdiopcpifaaDoorPlG17
import Derived.BigQuiet
import Derived.Deep.RegionHeld3
set_option maxRecDepth 100000
namespace Go.Proofs.YtmcokdiopcpifaaDoor
open Go.RowKit Pol
def gLos (m : M4) : Bool := all4 vld m && ((mTm m (mC m)).2 && m4B (mTm m (mC m)).1 mSame)
theorem mTm_z (m : M4) : mTm m m4z = (m4z, false) := by
  unfold mTm
  split
  · rw [if_neg (by decide)]
  · rfl
theorem m4B_same (o : M4) : m4B o mSame = m4B o ⟨⟨1, 0, 1⟩, ⟨0, 0, 1⟩, ⟨0, 0, 1⟩, ⟨1, 0, 1⟩⟩ := rfl
set_option maxRecDepth 100000 in
set_option maxHeartbeats 8000000 in
theorem ilos_any (m : M4) (w : World) (hg_same : Gat w 4 mSame.get 4) :
    Calls Tryd.prog 55 #[.agg #[.int .i64 m.a.re, .int .i64 m.a.im, .int .i64 m.a.den, .int .i64 m.b.re, .int .i64 m.b.im, .int .i64 m.b.den, .int .i64 m.c.re, .int .i64 m.c.im, .int .i64 m.c.den, .int .i64 m.d.re, .int .i64 m.d.im, .int .i64 m.d.den]] w (fun e w' => e = .returned (.bool (gLos m)) ∧ Below w.heap.size w w') := by
  cases hv : all4 vld m
  · skip
    have HA : Hid (gAdj m = (m4z, false)) := gAdj_n hv
    have HT : Hid (mTm m m4z = (m4z, false)) := mTm_z m
    have HL : Hid (gLos m = false) := by show _ = _; unfold gLos; rw [hv]; rfl
    clear hv
    have HB : Hid (Below w.heap.size w w) := Below.refl _ _
    have HG_same := Lib.hid hg_same; clear hg_same
    go_enter Tryd.func55, Tryd.ntmps55
    go_wp2_with (first | ((with_reducible refine wpList_load_mid ?kl11 41 ?kl1x ?kl12 (w.heap.size) 0 ?kl13 [.int .i64 m.a.re, .int .i64 m.a.im, .int .i64 m.a.den, .int .i64 m.b.re, .int .i64 m.b.im, .int .i64 m.b.den, .int .i64 m.c.re, .int .i64 m.c.im, .int .i64 m.c.den, .int .i64 m.d.re, .int .i64 m.d.im, .int .i64 m.d.den] ?kl1d ?kl14 ?kl15 ?kl16 ?kl17 ?kl18); (case kl12 => rfl); (case kl11 => rfl); (case kl13 => rfl); (case kl14 => (exact (rangeAt_new _ _ _))); (case kl15 => exact Tryd.underlying41); (case kl16 => rfl); (case kl17 => kernel_rfl)))
    refine (imatadj_any m _).mono ?_
    rintro e w1 ho
    rw [HA.out] at ho
    obtain ⟨rfl, hb⟩ : e = .returned (.tuple #[.agg #[.int .i64 m4z.a.re, .int .i64 m4z.a.im, .int .i64 m4z.a.den, .int .i64 m4z.b.re, .int .i64 m4z.b.im, .int .i64 m4z.b.den, .int .i64 m4z.c.re, .int .i64 m4z.c.im, .int .i64 m4z.c.den, .int .i64 m4z.d.re, .int .i64 m4z.d.im, .int .i64 m4z.d.den], .bool false]) ∧ Below _ _ _ := ho.fn
    clear ho
    have HB := Lib.hid (show Below w.heap.size w w1 from HB.out.trans ((show Below _ _ _ from ((Below.refl _ _).alloc (by first | omega | (simp; done) | (simp <;> omega)) _)).trans (hb.mono (by first | omega | (simp <;> omega)))))
    have Hm : Hid (w1.rangeAt (w.heap.size) 0 [.int .i64 m.a.re, .int .i64 m.a.im, .int .i64 m.a.den, .int .i64 m.b.re, .int .i64 m.b.im, .int .i64 m.b.den, .int .i64 m.c.re, .int .i64 m.c.im, .int .i64 m.c.den, .int .i64 m.d.re, .int .i64 m.d.im, .int .i64 m.d.den]) := rangeAt_below (rangeAt_new _ _ _) hb (by first | omega | (simp; done) | (simp <;> omega))
    have hz1 := hb.size
    (try simp at hz1)
    clear hb
    have nA0 : w.heap.size < w1.heap.size := by omega
    have nB0 : ¬ w.heap.size = w1.heap.size := by omega
    have nC0 : ¬ w1.heap.size = w.heap.size := by omega
    go_wp2_with (first | ((with_reducible refine wpList_load_mid ?kl21 41 ?kl2x ?kl22 (w.heap.size) 0 ?kl23 [.int .i64 m.a.re, .int .i64 m.a.im, .int .i64 m.a.den, .int .i64 m.b.re, .int .i64 m.b.im, .int .i64 m.b.den, .int .i64 m.c.re, .int .i64 m.c.im, .int .i64 m.c.den, .int .i64 m.d.re, .int .i64 m.d.im, .int .i64 m.d.den] ?kl2d ?kl24 ?kl25 ?kl26 ?kl27 ?kl28); (case kl22 => rfl); (case kl21 => rfl); (case kl23 => rfl); (case kl24 => (exact (World.rangeAt_alloc Hm.out _))); (case kl25 => exact Tryd.underlying41); (case kl26 => rfl); (case kl27 => kernel_rfl)) | ((with_reducible refine wpList_load_mid ?kl31 41 ?kl3x ?kl32 (w1.heap.size) 0 ?kl33 [.int .i64 m4z.a.re, .int .i64 m4z.a.im, .int .i64 m4z.a.den, .int .i64 m4z.b.re, .int .i64 m4z.b.im, .int .i64 m4z.b.den, .int .i64 m4z.c.re, .int .i64 m4z.c.im, .int .i64 m4z.c.den, .int .i64 m4z.d.re, .int .i64 m4z.d.im, .int .i64 m4z.d.den] ?kl3d ?kl34 ?kl35 ?kl36 ?kl37 ?kl38); (case kl32 => rfl); (case kl31 => rfl); (case kl33 => rfl); (case kl34 => (exact (rangeAt_new _ _ _))); (case kl35 => exact Tryd.underlying41); (case kl36 => rfl); (case kl37 => kernel_rfl)))
    refine (imtm_m m m4z _).mono ?_
    rintro e w2 ho
    rw [HT.out] at ho
    obtain ⟨rfl, hb⟩ : e = .returned (.tuple #[.agg #[.int .i64 m4z.a.re, .int .i64 m4z.a.im, .int .i64 m4z.a.den, .int .i64 m4z.b.re, .int .i64 m4z.b.im, .int .i64 m4z.b.den, .int .i64 m4z.c.re, .int .i64 m4z.c.im, .int .i64 m4z.c.den, .int .i64 m4z.d.re, .int .i64 m4z.d.im, .int .i64 m4z.d.den], .bool false]) ∧ Below _ _ _ := ho.fn
    clear ho
    have HB := Lib.hid (show Below w.heap.size w w2 from HB.out.trans ((show Below _ _ _ from ((Below.refl _ _).alloc (by first | omega | (simp; done) | (simp <;> omega)) _)).trans (hb.mono (by first | omega | (simp <;> omega)))))
    have Hm : Hid (w2.rangeAt (w.heap.size) 0 [.int .i64 m.a.re, .int .i64 m.a.im, .int .i64 m.a.den, .int .i64 m.b.re, .int .i64 m.b.im, .int .i64 m.b.den, .int .i64 m.c.re, .int .i64 m.c.im, .int .i64 m.c.den, .int .i64 m.d.re, .int .i64 m.d.im, .int .i64 m.d.den]) := rangeAt_below (World.rangeAt_alloc Hm.out _) hb (by first | omega | (simp; done) | (simp <;> omega))
    have Hb : Hid (w2.rangeAt (w1.heap.size) 0 [.int .i64 m4z.a.re, .int .i64 m4z.a.im, .int .i64 m4z.a.den, .int .i64 m4z.b.re, .int .i64 m4z.b.im, .int .i64 m4z.b.den, .int .i64 m4z.c.re, .int .i64 m4z.c.im, .int .i64 m4z.c.den, .int .i64 m4z.d.re, .int .i64 m4z.d.im, .int .i64 m4z.d.den]) := rangeAt_below (rangeAt_new _ _ _) hb (by first | omega | (simp; done) | (simp <;> omega))
    have hz2 := hb.size
    (try simp at hz2)
    clear hb
    have nA0 : w.heap.size < w2.heap.size := by omega
    have nB0 : ¬ w.heap.size = w2.heap.size := by omega
    have nC0 : ¬ w2.heap.size = w.heap.size := by omega
    have nA1 : w1.heap.size < w2.heap.size := by omega
    have nB1 : ¬ w1.heap.size = w2.heap.size := by omega
    have nC1 : ¬ w2.heap.size = w1.heap.size := by omega
    go_wp2_with fail
    go_ret
    exact ⟨by rw [HL.out]; rfl, (by (repeat' first | (with_reducible exact HB.out) | with_reducible refine setCells_below _ _ _ ?_ (by first | omega | (simp <;> omega)) | with_reducible refine Below.setCell ?_ (by show _ ≤ _; first | omega | (simp <;> omega) | simp) _ | with_reducible refine Below.alloc ?_ (by first | omega | (simp <;> omega)) _ | with_reducible apply Below.drew | with_reducible refine below_drewN ?_ _))⟩
  · skip
    have HA : Hid (gAdj m = (mC m, true)) := gAdj_y hv
    obtain ⟨c, hc⟩ : ∃ c, c = mC m := ⟨_, rfl⟩
    obtain ⟨o, q, ho⟩ : ∃ o q, mTm m c = (o, q) := ⟨_, _, rfl⟩
    have hl : gLos m = (q && m4B o mSame) := by unfold gLos; rw [hv, ← hc, ho]; rfl
    rw [← hc] at HA
    clear hc hv
    cases q
    · skip
      have HL : Hid (gLos m = false) := hl
      have HT := Lib.hid ho
      clear hl ho
      have HB : Hid (Below w.heap.size w w) := Below.refl _ _
      have HG_same := Lib.hid hg_same; clear hg_same
      go_enter Tryd.func55, Tryd.ntmps55
      go_wp2_with (first | ((with_reducible refine wpList_load_mid ?kl41 41 ?kl4x ?kl42 (w.heap.size) 0 ?kl43 [.int .i64 m.a.re, .int .i64 m.a.im, .int .i64 m.a.den, .int .i64 m.b.re, .int .i64 m.b.im, .int .i64 m.b.den, .int .i64 m.c.re, .int .i64 m.c.im, .int .i64 m.c.den, .int .i64 m.d.re, .int .i64 m.d.im, .int .i64 m.d.den] ?kl4d ?kl44 ?kl45 ?kl46 ?kl47 ?kl48); (case kl42 => rfl); (case kl41 => rfl); (case kl43 => rfl); (case kl44 => (exact (rangeAt_new _ _ _))); (case kl45 => exact Tryd.underlying41); (case kl46 => rfl); (case kl47 => kernel_rfl)))
      refine (imatadj_any m _).mono ?_
      rintro e w1 ho
      rw [HA.out] at ho
      obtain ⟨rfl, hb⟩ : e = .returned (.tuple #[.agg #[.int .i64 c.a.re, .int .i64 c.a.im, .int .i64 c.a.den, .int .i64 c.b.re, .int .i64 c.b.im, .int .i64 c.b.den, .int .i64 c.c.re, .int .i64 c.c.im, .int .i64 c.c.den, .int .i64 c.d.re, .int .i64 c.d.im, .int .i64 c.d.den], .bool true]) ∧ Below _ _ _ := ho.fn
      clear ho
      have HB := Lib.hid (show Below w.heap.size w w1 from HB.out.trans ((show Below _ _ _ from ((Below.refl _ _).alloc (by first | omega | (simp; done) | (simp <;> omega)) _)).trans (hb.mono (by first | omega | (simp <;> omega)))))
      have Hm : Hid (w1.rangeAt (w.heap.size) 0 [.int .i64 m.a.re, .int .i64 m.a.im, .int .i64 m.a.den, .int .i64 m.b.re, .int .i64 m.b.im, .int .i64 m.b.den, .int .i64 m.c.re, .int .i64 m.c.im, .int .i64 m.c.den, .int .i64 m.d.re, .int .i64 m.d.im, .int .i64 m.d.den]) := rangeAt_below (rangeAt_new _ _ _) hb (by first | omega | (simp; done) | (simp <;> omega))
      have hz1 := hb.size
      (try simp at hz1)
      clear hb
      have nA0 : w.heap.size < w1.heap.size := by omega
      have nB0 : ¬ w.heap.size = w1.heap.size := by omega
      have nC0 : ¬ w1.heap.size = w.heap.size := by omega
      go_wp2_with (first | ((with_reducible refine wpList_load_mid ?kl51 41 ?kl5x ?kl52 (w.heap.size) 0 ?kl53 [.int .i64 m.a.re, .int .i64 m.a.im, .int .i64 m.a.den, .int .i64 m.b.re, .int .i64 m.b.im, .int .i64 m.b.den, .int .i64 m.c.re, .int .i64 m.c.im, .int .i64 m.c.den, .int .i64 m.d.re, .int .i64 m.d.im, .int .i64 m.d.den] ?kl5d ?kl54 ?kl55 ?kl56 ?kl57 ?kl58); (case kl52 => rfl); (case kl51 => rfl); (case kl53 => rfl); (case kl54 => (exact (World.rangeAt_alloc Hm.out _))); (case kl55 => exact Tryd.underlying41); (case kl56 => rfl); (case kl57 => kernel_rfl)) | ((with_reducible refine wpList_load_mid ?kl61 41 ?kl6x ?kl62 (w1.heap.size) 0 ?kl63 [.int .i64 c.a.re, .int .i64 c.a.im, .int .i64 c.a.den, .int .i64 c.b.re, .int .i64 c.b.im, .int .i64 c.b.den, .int .i64 c.c.re, .int .i64 c.c.im, .int .i64 c.c.den, .int .i64 c.d.re, .int .i64 c.d.im, .int .i64 c.d.den] ?kl6d ?kl64 ?kl65 ?kl66 ?kl67 ?kl68); (case kl62 => rfl); (case kl61 => rfl); (case kl63 => rfl); (case kl64 => (exact (rangeAt_new _ _ _))); (case kl65 => exact Tryd.underlying41); (case kl66 => rfl); (case kl67 => kernel_rfl)))
      refine (imtm_m m c _).mono ?_
      rintro e w2 ho
      rw [HT.out] at ho
      obtain ⟨rfl, hb⟩ : e = .returned (.tuple #[.agg #[.int .i64 o.a.re, .int .i64 o.a.im, .int .i64 o.a.den, .int .i64 o.b.re, .int .i64 o.b.im, .int .i64 o.b.den, .int .i64 o.c.re, .int .i64 o.c.im, .int .i64 o.c.den, .int .i64 o.d.re, .int .i64 o.d.im, .int .i64 o.d.den], .bool false]) ∧ Below _ _ _ := ho.fn
      clear ho
      have HB := Lib.hid (show Below w.heap.size w w2 from HB.out.trans ((show Below _ _ _ from ((Below.refl _ _).alloc (by first | omega | (simp; done) | (simp <;> omega)) _)).trans (hb.mono (by first | omega | (simp <;> omega)))))
      have Hm : Hid (w2.rangeAt (w.heap.size) 0 [.int .i64 m.a.re, .int .i64 m.a.im, .int .i64 m.a.den, .int .i64 m.b.re, .int .i64 m.b.im, .int .i64 m.b.den, .int .i64 m.c.re, .int .i64 m.c.im, .int .i64 m.c.den, .int .i64 m.d.re, .int .i64 m.d.im, .int .i64 m.d.den]) := rangeAt_below (World.rangeAt_alloc Hm.out _) hb (by first | omega | (simp; done) | (simp <;> omega))
      have Hb : Hid (w2.rangeAt (w1.heap.size) 0 [.int .i64 c.a.re, .int .i64 c.a.im, .int .i64 c.a.den, .int .i64 c.b.re, .int .i64 c.b.im, .int .i64 c.b.den, .int .i64 c.c.re, .int .i64 c.c.im, .int .i64 c.c.den, .int .i64 c.d.re, .int .i64 c.d.im, .int .i64 c.d.den]) := rangeAt_below (rangeAt_new _ _ _) hb (by first | omega | (simp; done) | (simp <;> omega))
      have hz2 := hb.size
      (try simp at hz2)
      clear hb
      have nA0 : w.heap.size < w2.heap.size := by omega
      have nB0 : ¬ w.heap.size = w2.heap.size := by omega
      have nC0 : ¬ w2.heap.size = w.heap.size := by omega
      have nA1 : w1.heap.size < w2.heap.size := by omega
      have nB1 : ¬ w1.heap.size = w2.heap.size := by omega
      have nC1 : ¬ w2.heap.size = w1.heap.size := by omega
      go_wp2_with fail
      go_ret
      exact ⟨by rw [HL.out]; rfl, (by (repeat' first | (with_reducible exact HB.out) | with_reducible refine setCells_below _ _ _ ?_ (by first | omega | (simp <;> omega)) | with_reducible refine Below.setCell ?_ (by show _ ≤ _; first | omega | (simp <;> omega) | simp) _ | with_reducible refine Below.alloc ?_ (by first | omega | (simp <;> omega)) _ | with_reducible apply Below.drew | with_reducible refine below_drewN ?_ _))⟩
    · skip
      have HL : Hid (gLos m = m4B o ⟨⟨1, 0, 1⟩, ⟨0, 0, 1⟩, ⟨0, 0, 1⟩, ⟨1, 0, 1⟩⟩) := hl.trans (by rw [m4B_same]; rfl)
      have HT := Lib.hid ho
      clear hl ho
      have hE : ∀ w, (Op.equalIn 10000 41 (.agg #[.int .i64 o.a.re, .int .i64 o.a.im, .int .i64 o.a.den, .int .i64 o.b.re, .int .i64 o.b.im, .int .i64 o.b.den, .int .i64 o.c.re, .int .i64 o.c.im, .int .i64 o.c.den, .int .i64 o.d.re, .int .i64 o.d.im, .int .i64 o.d.den]) (.agg #[.int .i64 1, .int .i64 0, .int .i64 1, .int .i64 0, .int .i64 0, .int .i64 1, .int .i64 0, .int .i64 0, .int .i64 1, .int .i64 1, .int .i64 0, .int .i64 1])).run Tryd.prog w = .ok (m4B o ⟨⟨1, 0, 1⟩, ⟨0, 0, 1⟩, ⟨0, 0, 1⟩, ⟨1, 0, 1⟩⟩) w := eqMatB_run o ⟨⟨1, 0, 1⟩, ⟨0, 0, 1⟩, ⟨0, 0, 1⟩, ⟨1, 0, 1⟩⟩ 9995
      have HB : Hid (Below w.heap.size w w) := Below.refl _ _
      have HG_same := Lib.hid hg_same; clear hg_same
      go_enter Tryd.func55, Tryd.ntmps55
      go_wp2_with (first | ((with_reducible refine wpList_load_mid ?kl71 41 ?kl7x ?kl72 (w.heap.size) 0 ?kl73 [.int .i64 m.a.re, .int .i64 m.a.im, .int .i64 m.a.den, .int .i64 m.b.re, .int .i64 m.b.im, .int .i64 m.b.den, .int .i64 m.c.re, .int .i64 m.c.im, .int .i64 m.c.den, .int .i64 m.d.re, .int .i64 m.d.im, .int .i64 m.d.den] ?kl7d ?kl74 ?kl75 ?kl76 ?kl77 ?kl78); (case kl72 => rfl); (case kl71 => rfl); (case kl73 => rfl); (case kl74 => (exact (rangeAt_new _ _ _))); (case kl75 => exact Tryd.underlying41); (case kl76 => rfl); (case kl77 => kernel_rfl)))
      refine (imatadj_any m _).mono ?_
      rintro e w1 ho
      rw [HA.out] at ho
      obtain ⟨rfl, hb⟩ : e = .returned (.tuple #[.agg #[.int .i64 c.a.re, .int .i64 c.a.im, .int .i64 c.a.den, .int .i64 c.b.re, .int .i64 c.b.im, .int .i64 c.b.den, .int .i64 c.c.re, .int .i64 c.c.im, .int .i64 c.c.den, .int .i64 c.d.re, .int .i64 c.d.im, .int .i64 c.d.den], .bool true]) ∧ Below _ _ _ := ho.fn
      clear ho
      have HB := Lib.hid (show Below w.heap.size w w1 from HB.out.trans ((show Below _ _ _ from ((Below.refl _ _).alloc (by first | omega | (simp; done) | (simp <;> omega)) _)).trans (hb.mono (by first | omega | (simp <;> omega)))))
      have Hm : Hid (w1.rangeAt (w.heap.size) 0 [.int .i64 m.a.re, .int .i64 m.a.im, .int .i64 m.a.den, .int .i64 m.b.re, .int .i64 m.b.im, .int .i64 m.b.den, .int .i64 m.c.re, .int .i64 m.c.im, .int .i64 m.c.den, .int .i64 m.d.re, .int .i64 m.d.im, .int .i64 m.d.den]) := rangeAt_below (rangeAt_new _ _ _) hb (by first | omega | (simp; done) | (simp <;> omega))
      have hz1 := hb.size
      (try simp at hz1)
      clear hb
      have nA0 : w.heap.size < w1.heap.size := by omega
      have nB0 : ¬ w.heap.size = w1.heap.size := by omega
      have nC0 : ¬ w1.heap.size = w.heap.size := by omega
      go_wp2_with (first | ((with_reducible refine wpList_load_mid ?kl81 41 ?kl8x ?kl82 (w.heap.size) 0 ?kl83 [.int .i64 m.a.re, .int .i64 m.a.im, .int .i64 m.a.den, .int .i64 m.b.re, .int .i64 m.b.im, .int .i64 m.b.den, .int .i64 m.c.re, .int .i64 m.c.im, .int .i64 m.c.den, .int .i64 m.d.re, .int .i64 m.d.im, .int .i64 m.d.den] ?kl8d ?kl84 ?kl85 ?kl86 ?kl87 ?kl88); (case kl82 => rfl); (case kl81 => rfl); (case kl83 => rfl); (case kl84 => (exact (World.rangeAt_alloc Hm.out _))); (case kl85 => exact Tryd.underlying41); (case kl86 => rfl); (case kl87 => kernel_rfl)) | ((with_reducible refine wpList_load_mid ?kl91 41 ?kl9x ?kl92 (w1.heap.size) 0 ?kl93 [.int .i64 c.a.re, .int .i64 c.a.im, .int .i64 c.a.den, .int .i64 c.b.re, .int .i64 c.b.im, .int .i64 c.b.den, .int .i64 c.c.re, .int .i64 c.c.im, .int .i64 c.c.den, .int .i64 c.d.re, .int .i64 c.d.im, .int .i64 c.d.den] ?kl9d ?kl94 ?kl95 ?kl96 ?kl97 ?kl98); (case kl92 => rfl); (case kl91 => rfl); (case kl93 => rfl); (case kl94 => (exact (rangeAt_new _ _ _))); (case kl95 => exact Tryd.underlying41); (case kl96 => rfl); (case kl97 => kernel_rfl)))
      refine (imtm_m m c _).mono ?_
      rintro e w2 ho
      rw [HT.out] at ho
      obtain ⟨rfl, hb⟩ : e = .returned (.tuple #[.agg #[.int .i64 o.a.re, .int .i64 o.a.im, .int .i64 o.a.den, .int .i64 o.b.re, .int .i64 o.b.im, .int .i64 o.b.den, .int .i64 o.c.re, .int .i64 o.c.im, .int .i64 o.c.den, .int .i64 o.d.re, .int .i64 o.d.im, .int .i64 o.d.den], .bool true]) ∧ Below _ _ _ := ho.fn
      clear ho
      have HB := Lib.hid (show Below w.heap.size w w2 from HB.out.trans ((show Below _ _ _ from ((Below.refl _ _).alloc (by first | omega | (simp; done) | (simp <;> omega)) _)).trans (hb.mono (by first | omega | (simp <;> omega)))))
      have Hm : Hid (w2.rangeAt (w.heap.size) 0 [.int .i64 m.a.re, .int .i64 m.a.im, .int .i64 m.a.den, .int .i64 m.b.re, .int .i64 m.b.im, .int .i64 m.b.den, .int .i64 m.c.re, .int .i64 m.c.im, .int .i64 m.c.den, .int .i64 m.d.re, .int .i64 m.d.im, .int .i64 m.d.den]) := rangeAt_below (World.rangeAt_alloc Hm.out _) hb (by first | omega | (simp; done) | (simp <;> omega))
      have Hb : Hid (w2.rangeAt (w1.heap.size) 0 [.int .i64 c.a.re, .int .i64 c.a.im, .int .i64 c.a.den, .int .i64 c.b.re, .int .i64 c.b.im, .int .i64 c.b.den, .int .i64 c.c.re, .int .i64 c.c.im, .int .i64 c.c.den, .int .i64 c.d.re, .int .i64 c.d.im, .int .i64 c.d.den]) := rangeAt_below (rangeAt_new _ _ _) hb (by first | omega | (simp; done) | (simp <;> omega))
      have hz2 := hb.size
      (try simp at hz2)
      clear hb
      have nA0 : w.heap.size < w2.heap.size := by omega
      have nB0 : ¬ w.heap.size = w2.heap.size := by omega
      have nC0 : ¬ w2.heap.size = w.heap.size := by omega
      have nA1 : w1.heap.size < w2.heap.size := by omega
      have nB1 : ¬ w1.heap.size = w2.heap.size := by omega
      have nC1 : ¬ w2.heap.size = w1.heap.size := by omega
      have hgv_same := (HG_same.out.below HB.out)
      have vsame_0 : w2.cell? ⟨4, 0, none⟩ = some (.int .i64 1) := (hgv_same.box 0 (by omega)).1
      have vsame_1 : w2.cell? ⟨4, 1, none⟩ = some (.int .i64 0) := (hgv_same.box 0 (by omega)).2.1
      have vsame_2 : w2.cell? ⟨4, 2, none⟩ = some (.int .i64 1) := (hgv_same.box 0 (by omega)).2.2
      have vsame_3 : w2.cell? ⟨4, 3, none⟩ = some (.int .i64 0) := (hgv_same.box 1 (by omega)).1
      have vsame_4 : w2.cell? ⟨4, 4, none⟩ = some (.int .i64 0) := (hgv_same.box 1 (by omega)).2.1
      have vsame_5 : w2.cell? ⟨4, 5, none⟩ = some (.int .i64 1) := (hgv_same.box 1 (by omega)).2.2
      have vsame_6 : w2.cell? ⟨4, 6, none⟩ = some (.int .i64 0) := (hgv_same.box 2 (by omega)).1
      have vsame_7 : w2.cell? ⟨4, 7, none⟩ = some (.int .i64 0) := (hgv_same.box 2 (by omega)).2.1
      have vsame_8 : w2.cell? ⟨4, 8, none⟩ = some (.int .i64 1) := (hgv_same.box 2 (by omega)).2.2
      have vsame_9 : w2.cell? ⟨4, 9, none⟩ = some (.int .i64 1) := (hgv_same.box 3 (by omega)).1
      have vsame_10 : w2.cell? ⟨4, 10, none⟩ = some (.int .i64 0) := (hgv_same.box 3 (by omega)).2.1
      have vsame_11 : w2.cell? ⟨4, 11, none⟩ = some (.int .i64 1) := (hgv_same.box 3 (by omega)).2.2
      have hlv_same : ¬ 4 = w2.heap.size := by have := hgv_same.lt; omega
      have hlw_same : ¬ w2.heap.size = 4 := by have := hgv_same.lt; omega
      have hlx_same : ¬ w2.heap = #[] := fun h => by have := hgv_same.lt; rw [h] at this; exact absurd this (Nat.not_lt_zero _)
      have hly_same : 0 < w2.heap.size := by have := hgv_same.lt; omega
      have hlk_same : 4 < w2.heap.size := by have := hgv_same.lt; omega
      clear hgv_same
      go_wp2_with fail
      go_ret
      exact ⟨by rw [HL.out]; rfl, (by (repeat' first | (with_reducible exact HB.out) | with_reducible refine setCells_below _ _ _ ?_ (by first | omega | (simp <;> omega)) | with_reducible refine Below.setCell ?_ (by show _ ≤ _; first | omega | (simp <;> omega) | simp) _ | with_reducible refine Below.alloc ?_ (by first | omega | (simp <;> omega)) _ | with_reducible apply Below.drew | with_reducible refine below_drewN ?_ _))⟩
end Go.Proofs.YtmcokdiopcpifaaDoor
