/- Pure light comes of a vector. The row lists package-level variables, and the card ties them to the text of the program: the pruned copy of the project that the seat holds. -/
import Derived.Test.YtmcokdiopcpifaaDoorPjG16
import Derived.Test.YtmcokdiopcpifaaDoorPjVI
import Derived.Test.YtmcokdiopcpifaaDoorPjG26
import Derived.Test.YtmcokdiopcpifaaDoorPjSL
import Derived.Test.YtmcokdiopcpifaaDoorTie
import Derived.Test.YtmcokdiopcpifaaDoorCards
import Derived.SevenTiedAt
set_option maxRecDepth 100000
namespace Go.Proofs.YtmcokdiopcpifaaDoor
open Go.ChangeShapes Go.WideShapes Go.ChangeAt Go.RowKit Pol
set_option maxRecDepth 100000 in
set_option maxHeartbeats 40000000 in
theorem walk_FnPure (a0 : Option Addr) (len cap : Nat) (w : World) (hcap : len ≤ cap) (HC : Code w.heap.size w a0 len) (hg_zero : Gat w 1 (ixF f0) 1) (hg_unit : Gat w 2 (ixF pI) 1) :
    Calls Tryd.prog 10 #[.slice a0 len cap] w fun e w' => e = .returned (.bool true) ∧ Below w.heap.size w w' := by
  by_cases hbig : 1048576 < len
  · have h1 : (1048576 : Int) < (len : Int) := by omega
    go_enter Tryd.func10, Tryd.ntmps10
    go_wp2
    go_ret
    exact ⟨rfl, Below.refl _ _⟩
  have h1 : ¬ (1048576 : Int) < (len : Int) := by omega
  have HB : Hid (Below w.heap.size w w) := Below.refl _ _
  have HG_zero := Lib.hid hg_zero; clear hg_zero
  have HG_unit := Lib.hid hg_unit; clear hg_unit
  go_enter Tryd.func10, Tryd.ntmps10
  go_wp2_with fail
  refine (DrawStokesPure_any a0 len cap _ hcap HC).mono ?_
  rintro e w1 ⟨a, rfl, hb⟩
  rw [cl4 a]
  have HB := Lib.hid (show Below w.heap.size w w1 from HB.out.trans ((show Below _ _ _ from (Below.refl _ _)).trans (hb.mono (by first | omega | (simp <;> omega)))))
  have hz1 := hb.size
  (try simp at hz1)
  clear hb
  cases hp : gPure a
  · skip
    go_wp2_with (first | ((with_reducible refine wpList_load_mid ?kl11 51 ?kl1x ?kl12 (w1.heap.size) 0 ?kl13 [.int .i64 a.a.re, .int .i64 a.a.im, .int .i64 a.a.den, .int .i64 a.b.re, .int .i64 a.b.im, .int .i64 a.b.den, .int .i64 a.c.re, .int .i64 a.c.im, .int .i64 a.c.den, .int .i64 a.d.re, .int .i64 a.d.im, .int .i64 a.d.den] ?kl1d ?kl14 ?kl15 ?kl16 ?kl17 ?kl18); (case kl12 => rfl); (case kl11 => rfl); (case kl13 => rfl); (case kl14 => (exact (rangeAt_new _ _ _))); (case kl15 => exact Tryd.underlying51); (case kl16 => rfl); (case kl17 => kernel_rfl)))
    refine (ipure_any a _).mono ?_
    rintro e w2 ho
    rw [hp] at ho
    obtain ⟨rfl, hb⟩ : e = .returned (.bool false) ∧ Below _ _ _ := (id ho)
    clear ho
    have HB := Lib.hid (show Below w.heap.size w w2 from HB.out.trans ((show Below _ _ _ from ((Below.refl _ _).alloc (by first | omega | (simp; done) | (simp <;> omega)) _)).trans (hb.mono (by first | omega | (simp <;> omega)))))
    have Ha : Hid (w2.rangeAt (w1.heap.size) 0 [.int .i64 a.a.re, .int .i64 a.a.im, .int .i64 a.a.den, .int .i64 a.b.re, .int .i64 a.b.im, .int .i64 a.b.den, .int .i64 a.c.re, .int .i64 a.c.im, .int .i64 a.c.den, .int .i64 a.d.re, .int .i64 a.d.im, .int .i64 a.d.den]) := rangeAt_below (rangeAt_new _ _ _) hb (by first | omega | (simp; done) | (simp <;> omega))
    have hz2 := hb.size
    (try simp at hz2)
    clear hb
    have nA0 : w1.heap.size < w2.heap.size := by omega
    have nB0 : ¬ w1.heap.size = w2.heap.size := by omega
    have nC0 : ¬ w2.heap.size = w1.heap.size := by omega
    go_wp2_with (first | ((with_reducible refine wpList_load_mid ?kl21 51 ?kl2x ?kl22 (w1.heap.size) 0 ?kl23 [.int .i64 a.a.re, .int .i64 a.a.im, .int .i64 a.a.den, .int .i64 a.b.re, .int .i64 a.b.im, .int .i64 a.b.den, .int .i64 a.c.re, .int .i64 a.c.im, .int .i64 a.c.den, .int .i64 a.d.re, .int .i64 a.d.im, .int .i64 a.d.den] ?kl2d ?kl24 ?kl25 ?kl26 ?kl27 ?kl28); (case kl22 => rfl); (case kl21 => rfl); (case kl23 => rfl); (case kl24 => (exact Ha.out)); (case kl25 => exact Tryd.underlying51); (case kl26 => rfl); (case kl27 => kernel_rfl)))
    refine (spure_any a _).mono ?_
    rintro e w3 ho
    rw [hp] at ho
    obtain ⟨rfl, hb⟩ : e = .returned (.bool false) ∧ Below _ _ _ := (id ho)
    clear ho
    have HB := Lib.hid (show Below w.heap.size w w3 from HB.out.trans ((show Below _ _ _ from (Below.refl _ _)).trans (hb.mono (by first | omega | (simp <;> omega)))))
    have Ha : Hid (w3.rangeAt (w1.heap.size) 0 [.int .i64 a.a.re, .int .i64 a.a.im, .int .i64 a.a.den, .int .i64 a.b.re, .int .i64 a.b.im, .int .i64 a.b.den, .int .i64 a.c.re, .int .i64 a.c.im, .int .i64 a.c.den, .int .i64 a.d.re, .int .i64 a.d.im, .int .i64 a.d.den]) := rangeAt_below Ha.out hb (by first | omega | (simp; done) | (simp <;> omega))
    have hz3 := hb.size
    (try simp at hz3)
    clear hb
    have nA0 : w1.heap.size < w3.heap.size := by omega
    have nB0 : ¬ w1.heap.size = w3.heap.size := by omega
    have nC0 : ¬ w3.heap.size = w1.heap.size := by omega
    go_wp2_with fail
    go_ret
    exact ⟨rfl, (by (repeat' first | (with_reducible exact HB.out) | with_reducible refine setCells_below _ _ _ ?_ (by first | omega | (simp <;> omega)) | with_reducible refine Below.setCell ?_ (by show _ ≤ _; first | omega | (simp <;> omega) | simp) _ | with_reducible refine Below.alloc ?_ (by first | omega | (simp <;> omega)) _ | with_reducible apply Below.drew | with_reducible refine below_drewN ?_ _))⟩
  · skip
    have hlight := pure_light hp
    have HL := Lib.hid hlight
    clear hlight
    go_wp2_with (first | ((with_reducible refine wpList_load_mid ?kl31 51 ?kl3x ?kl32 (w1.heap.size) 0 ?kl33 [.int .i64 a.a.re, .int .i64 a.a.im, .int .i64 a.a.den, .int .i64 a.b.re, .int .i64 a.b.im, .int .i64 a.b.den, .int .i64 a.c.re, .int .i64 a.c.im, .int .i64 a.c.den, .int .i64 a.d.re, .int .i64 a.d.im, .int .i64 a.d.den] ?kl3d ?kl34 ?kl35 ?kl36 ?kl37 ?kl38); (case kl32 => rfl); (case kl31 => rfl); (case kl33 => rfl); (case kl34 => (exact (rangeAt_new _ _ _))); (case kl35 => exact Tryd.underlying51); (case kl36 => rfl); (case kl37 => kernel_rfl)))
    refine (ipure_any a _).mono ?_
    rintro e w2 ho
    rw [hp] at ho
    obtain ⟨rfl, hb⟩ : e = .returned (.bool true) ∧ Below _ _ _ := (id ho)
    clear ho
    have HB := Lib.hid (show Below w.heap.size w w2 from HB.out.trans ((show Below _ _ _ from ((Below.refl _ _).alloc (by first | omega | (simp; done) | (simp <;> omega)) _)).trans (hb.mono (by first | omega | (simp <;> omega)))))
    have Ha : Hid (w2.rangeAt (w1.heap.size) 0 [.int .i64 a.a.re, .int .i64 a.a.im, .int .i64 a.a.den, .int .i64 a.b.re, .int .i64 a.b.im, .int .i64 a.b.den, .int .i64 a.c.re, .int .i64 a.c.im, .int .i64 a.c.den, .int .i64 a.d.re, .int .i64 a.d.im, .int .i64 a.d.den]) := rangeAt_below (rangeAt_new _ _ _) hb (by first | omega | (simp; done) | (simp <;> omega))
    have hz2 := hb.size
    (try simp at hz2)
    clear hb
    have nA0 : w1.heap.size < w2.heap.size := by omega
    have nB0 : ¬ w1.heap.size = w2.heap.size := by omega
    have nC0 : ¬ w2.heap.size = w1.heap.size := by omega
    go_wp2_with (first | ((with_reducible refine wpList_load_mid ?kl41 51 ?kl4x ?kl42 (w1.heap.size) 0 ?kl43 [.int .i64 a.a.re, .int .i64 a.a.im, .int .i64 a.a.den, .int .i64 a.b.re, .int .i64 a.b.im, .int .i64 a.b.den, .int .i64 a.c.re, .int .i64 a.c.im, .int .i64 a.c.den, .int .i64 a.d.re, .int .i64 a.d.im, .int .i64 a.d.den] ?kl4d ?kl44 ?kl45 ?kl46 ?kl47 ?kl48); (case kl42 => rfl); (case kl41 => rfl); (case kl43 => rfl); (case kl44 => (exact Ha.out)); (case kl45 => exact Tryd.underlying51); (case kl46 => rfl); (case kl47 => kernel_rfl)))
    refine (spure_any a _).mono ?_
    rintro e w3 ho
    rw [hp] at ho
    obtain ⟨rfl, hb⟩ : e = .returned (.bool true) ∧ Below _ _ _ := (id ho)
    clear ho
    have HB := Lib.hid (show Below w.heap.size w w3 from HB.out.trans ((show Below _ _ _ from (Below.refl _ _)).trans (hb.mono (by first | omega | (simp <;> omega)))))
    have Ha : Hid (w3.rangeAt (w1.heap.size) 0 [.int .i64 a.a.re, .int .i64 a.a.im, .int .i64 a.a.den, .int .i64 a.b.re, .int .i64 a.b.im, .int .i64 a.b.den, .int .i64 a.c.re, .int .i64 a.c.im, .int .i64 a.c.den, .int .i64 a.d.re, .int .i64 a.d.im, .int .i64 a.d.den]) := rangeAt_below Ha.out hb (by first | omega | (simp; done) | (simp <;> omega))
    have hz3 := hb.size
    (try simp at hz3)
    clear hb
    have nA0 : w1.heap.size < w3.heap.size := by omega
    have nB0 : ¬ w1.heap.size = w3.heap.size := by omega
    have nC0 : ¬ w3.heap.size = w1.heap.size := by omega
    obtain ⟨v, hv⟩ : ∃ zf, zf = (gVec a).1 := ⟨_, rfl⟩
    obtain ⟨b1, hb1⟩ : ∃ zb, zb = (gVec a).2 := ⟨_, rfl⟩
    have HV : Hid (gVec a = (v, b1)) := by show _ = _; rw [hv, hb1]
    have HVb := Lib.hid hb1
    clear hv hb1
    go_wp2_with (first | ((with_reducible refine wpList_load_mid ?kl51 51 ?kl5x ?kl52 (w1.heap.size) 0 ?kl53 [.int .i64 a.a.re, .int .i64 a.a.im, .int .i64 a.a.den, .int .i64 a.b.re, .int .i64 a.b.im, .int .i64 a.b.den, .int .i64 a.c.re, .int .i64 a.c.im, .int .i64 a.c.den, .int .i64 a.d.re, .int .i64 a.d.im, .int .i64 a.d.den] ?kl5d ?kl54 ?kl55 ?kl56 ?kl57 ?kl58); (case kl52 => rfl); (case kl51 => rfl); (case kl53 => rfl); (case kl54 => (exact Ha.out)); (case kl55 => exact Tryd.underlying51); (case kl56 => rfl); (case kl57 => kernel_rfl)))
    refine (ivec_any a _ (HG_zero.out.below HB.out) (HG_unit.out.below HB.out)).mono ?_
    rintro e w4 ho
    rw [HV.out] at ho
    obtain ⟨rfl, hb⟩ : e = .returned (.tuple #[.agg #[.int .i64 v.x.re, .int .i64 v.x.im, .int .i64 v.x.den, .int .i64 v.y.re, .int .i64 v.y.im, .int .i64 v.y.den], .bool b1]) ∧ Below _ _ _ := ho.fn
    clear ho
    have HB := Lib.hid (show Below w.heap.size w w4 from HB.out.trans ((show Below _ _ _ from (Below.refl _ _)).trans (hb.mono (by first | omega | (simp <;> omega)))))
    have Ha : Hid (w4.rangeAt (w1.heap.size) 0 [.int .i64 a.a.re, .int .i64 a.a.im, .int .i64 a.a.den, .int .i64 a.b.re, .int .i64 a.b.im, .int .i64 a.b.den, .int .i64 a.c.re, .int .i64 a.c.im, .int .i64 a.c.den, .int .i64 a.d.re, .int .i64 a.d.im, .int .i64 a.d.den]) := rangeAt_below Ha.out hb (by first | omega | (simp; done) | (simp <;> omega))
    have hz4 := hb.size
    (try simp at hz4)
    clear hb
    have nA0 : w1.heap.size < w4.heap.size := by omega
    have nB0 : ¬ w1.heap.size = w4.heap.size := by omega
    have nC0 : ¬ w4.heap.size = w1.heap.size := by omega
    obtain ⟨u, hu⟩ : ∃ zf, zf = (sOf v).1 := ⟨_, rfl⟩
    obtain ⟨b2, hb2⟩ : ∃ zb, zb = (sOf v).2 := ⟨_, rfl⟩
    have HS2 : Hid (sOf v = (u, b2)) := by show _ = _; rw [hu, hb2]
    have HS2b := Lib.hid hb2
    clear hu hb2
    go_wp2_with (first | ((with_reducible refine wpList_load_mid ?kl61 47 ?kl6x ?kl62 (w4.heap.size) 0 ?kl63 [.int .i64 v.x.re, .int .i64 v.x.im, .int .i64 v.x.den, .int .i64 v.y.re, .int .i64 v.y.im, .int .i64 v.y.den] ?kl6d ?kl64 ?kl65 ?kl66 ?kl67 ?kl68); (case kl62 => rfl); (case kl61 => rfl); (case kl63 => rfl); (case kl64 => (exact (rangeAt_new _ _ _))); (case kl65 => exact Tryd.underlying47); (case kl66 => rfl); (case kl67 => kernel_rfl)))
    refine (isof_any v _).mono ?_
    rintro e w5 ho
    rw [HS2.out] at ho
    obtain ⟨rfl, hb⟩ : e = .returned (.tuple #[.agg #[.int .i64 u.a.re, .int .i64 u.a.im, .int .i64 u.a.den, .int .i64 u.b.re, .int .i64 u.b.im, .int .i64 u.b.den, .int .i64 u.c.re, .int .i64 u.c.im, .int .i64 u.c.den, .int .i64 u.d.re, .int .i64 u.d.im, .int .i64 u.d.den], .bool b2]) ∧ Below _ _ _ := ho.fn
    clear ho
    have HB := Lib.hid (show Below w.heap.size w w5 from HB.out.trans ((show Below _ _ _ from ((Below.refl _ _).alloc (by first | omega | (simp; done) | (simp <;> omega)) _)).trans (hb.mono (by first | omega | (simp <;> omega)))))
    have Ha : Hid (w5.rangeAt (w1.heap.size) 0 [.int .i64 a.a.re, .int .i64 a.a.im, .int .i64 a.a.den, .int .i64 a.b.re, .int .i64 a.b.im, .int .i64 a.b.den, .int .i64 a.c.re, .int .i64 a.c.im, .int .i64 a.c.den, .int .i64 a.d.re, .int .i64 a.d.im, .int .i64 a.d.den]) := rangeAt_below (World.rangeAt_alloc Ha.out _) hb (by first | omega | (simp; done) | (simp <;> omega))
    have Hv : Hid (w5.rangeAt (w4.heap.size) 0 [.int .i64 v.x.re, .int .i64 v.x.im, .int .i64 v.x.den, .int .i64 v.y.re, .int .i64 v.y.im, .int .i64 v.y.den]) := rangeAt_below (rangeAt_new _ _ _) hb (by first | omega | (simp; done) | (simp <;> omega))
    have hz5 := hb.size
    (try simp at hz5)
    clear hb
    have nA0 : w1.heap.size < w5.heap.size := by omega
    have nB0 : ¬ w1.heap.size = w5.heap.size := by omega
    have nC0 : ¬ w5.heap.size = w1.heap.size := by omega
    have nA1 : w4.heap.size < w5.heap.size := by omega
    have nB1 : ¬ w4.heap.size = w5.heap.size := by omega
    have nC1 : ¬ w5.heap.size = w4.heap.size := by omega
    cases b2
    · skip
      obtain ⟨w6, hV⟩ : ∃ V, V = (w5.alloc (.cells #[.int .i64 u.a.re, .int .i64 u.a.im, .int .i64 u.a.den, .int .i64 u.b.re, .int .i64 u.b.im, .int .i64 u.b.den, .int .i64 u.c.re, .int .i64 u.c.im, .int .i64 u.c.den, .int .i64 u.d.re, .int .i64 u.d.im, .int .i64 u.d.den] 51)) := ⟨_, rfl⟩
      have HB : Hid (Below w.heap.size w w6) := by show Below _ _ _; rw [hV]; exact (Below.alloc HB.out (by first | omega | (simp; done) | (simp <;> omega)) _)
      have Ha : Hid (w6.rangeAt (w1.heap.size) 0 [.int .i64 a.a.re, .int .i64 a.a.im, .int .i64 a.a.den, .int .i64 a.b.re, .int .i64 a.b.im, .int .i64 a.b.den, .int .i64 a.c.re, .int .i64 a.c.im, .int .i64 a.c.den, .int .i64 a.d.re, .int .i64 a.d.im, .int .i64 a.d.den]) := by show World.rangeAt _ _ _ _; rw [hV]; exact (World.rangeAt_alloc Ha.out _)
      have Hv : Hid (w6.rangeAt (w4.heap.size) 0 [.int .i64 v.x.re, .int .i64 v.x.im, .int .i64 v.x.den, .int .i64 v.y.re, .int .i64 v.y.im, .int .i64 v.y.den]) := by show World.rangeAt _ _ _ _; rw [hV]; exact (World.rangeAt_alloc Hv.out _)
      have Hu : Hid (w6.rangeAt (w5.heap.size) 0 [.int .i64 u.a.re, .int .i64 u.a.im, .int .i64 u.a.den, .int .i64 u.b.re, .int .i64 u.b.im, .int .i64 u.b.den, .int .i64 u.c.re, .int .i64 u.c.im, .int .i64 u.c.den, .int .i64 u.d.re, .int .i64 u.d.im, .int .i64 u.d.den]) := by show World.rangeAt _ _ _ _; rw [hV]; exact (rangeAt_new _ _ _)
      have hz6 : w5.heap.size + 1 ≤ w6.heap.size := by rw [hV]; simp
      have nA0 : w1.heap.size < w6.heap.size := by omega
      have nB0 : ¬ w1.heap.size = w6.heap.size := by omega
      have nC0 : ¬ w6.heap.size = w1.heap.size := by omega
      have nA1 : w4.heap.size < w6.heap.size := by omega
      have nB1 : ¬ w4.heap.size = w6.heap.size := by omega
      have nC1 : ¬ w6.heap.size = w4.heap.size := by omega
      have nA2 : w5.heap.size < w6.heap.size := by omega
      have nB2 : ¬ w5.heap.size = w6.heap.size := by omega
      have nC2 : ¬ w6.heap.size = w5.heap.size := by omega
      go_wp2_with fail
      rw [← hV]
      clear hV
      go_loopw [10, 11] (fun s i wr => s = .bool true ∧ i = .int .i64 0 ∧ wr = w6) (fun _ _ _ => 0)
      case atStart => exact ⟨rfl, rfl, rfl⟩
      case round =>
        obtain ⟨rfl, rfl, hwr⟩ := hrel
        have hwr := hwr.symm
        subst hwr
        go_wp2_with (first | ((with_reducible refine wpList_load_mid ?kl71 51 ?kl7x ?kl72 (w1.heap.size) 0 ?kl73 [.int .i64 a.a.re, .int .i64 a.a.im, .int .i64 a.a.den, .int .i64 a.b.re, .int .i64 a.b.im, .int .i64 a.b.den, .int .i64 a.c.re, .int .i64 a.c.im, .int .i64 a.c.den, .int .i64 a.d.re, .int .i64 a.d.im, .int .i64 a.d.den] ?kl7d ?kl74 ?kl75 ?kl76 ?kl77 ?kl78); (case kl72 => rfl); (case kl71 => rfl); (case kl73 => rfl); (case kl74 => (exact Ha.out)); (case kl75 => exact Tryd.underlying51); (case kl76 => rfl); (case kl77 => kernel_rfl)))
        refine (ilight_any a _).mono ?_
        rintro e w7 ho
        rw [HL.out] at ho
        obtain ⟨rfl, hb⟩ : e = .returned (.bool true) ∧ Below _ _ _ := (id ho)
        clear ho
        have HB := Lib.hid (show Below w.heap.size w w7 from HB.out.trans ((show Below _ _ _ from (Below.refl _ _)).trans (hb.mono (by first | omega | (simp <;> omega)))))
        have Ha : Hid (w7.rangeAt (w1.heap.size) 0 [.int .i64 a.a.re, .int .i64 a.a.im, .int .i64 a.a.den, .int .i64 a.b.re, .int .i64 a.b.im, .int .i64 a.b.den, .int .i64 a.c.re, .int .i64 a.c.im, .int .i64 a.c.den, .int .i64 a.d.re, .int .i64 a.d.im, .int .i64 a.d.den]) := rangeAt_below Ha.out hb (by first | omega | (simp; done) | (simp <;> omega))
        have Hv : Hid (w7.rangeAt (w4.heap.size) 0 [.int .i64 v.x.re, .int .i64 v.x.im, .int .i64 v.x.den, .int .i64 v.y.re, .int .i64 v.y.im, .int .i64 v.y.den]) := rangeAt_below Hv.out hb (by first | omega | (simp; done) | (simp <;> omega))
        have Hu : Hid (w7.rangeAt (w5.heap.size) 0 [.int .i64 u.a.re, .int .i64 u.a.im, .int .i64 u.a.den, .int .i64 u.b.re, .int .i64 u.b.im, .int .i64 u.b.den, .int .i64 u.c.re, .int .i64 u.c.im, .int .i64 u.c.den, .int .i64 u.d.re, .int .i64 u.d.im, .int .i64 u.d.den]) := rangeAt_below Hu.out hb (by first | omega | (simp; done) | (simp <;> omega))
        have hz7 := hb.size
        (try simp at hz7)
        clear hb
        have nA0 : w1.heap.size < w7.heap.size := by omega
        have nB0 : ¬ w1.heap.size = w7.heap.size := by omega
        have nC0 : ¬ w7.heap.size = w1.heap.size := by omega
        have nA1 : w4.heap.size < w7.heap.size := by omega
        have nB1 : ¬ w4.heap.size = w7.heap.size := by omega
        have nC1 : ¬ w7.heap.size = w4.heap.size := by omega
        have nA2 : w5.heap.size < w7.heap.size := by omega
        have nB2 : ¬ w5.heap.size = w7.heap.size := by omega
        have nC2 : ¬ w7.heap.size = w5.heap.size := by omega
        cases b1
        · skip
          go_wp2_with fail
          go_ret
          exact ⟨rfl, (by (repeat' first | (with_reducible exact HB.out) | with_reducible refine setCells_below _ _ _ ?_ (by first | omega | (simp <;> omega)) | with_reducible refine Below.setCell ?_ (by show _ ≤ _; first | omega | (simp <;> omega) | simp) _ | with_reducible refine Below.alloc ?_ (by first | omega | (simp <;> omega)) _ | with_reducible apply Below.drew | with_reducible refine below_drewN ?_ _))⟩
        · skip
          go_wp2_with fail
          go_ret
          exact ⟨rfl, (by (repeat' first | (with_reducible exact HB.out) | with_reducible refine setCells_below _ _ _ ?_ (by first | omega | (simp <;> omega)) | with_reducible refine Below.setCell ?_ (by show _ ≤ _; first | omega | (simp <;> omega) | simp) _ | with_reducible refine Below.alloc ?_ (by first | omega | (simp <;> omega)) _ | with_reducible apply Below.drew | with_reducible refine below_drewN ?_ _))⟩
    · skip
      obtain ⟨w6, hV⟩ : ∃ V, V = (w5.alloc (.cells #[.int .i64 u.a.re, .int .i64 u.a.im, .int .i64 u.a.den, .int .i64 u.b.re, .int .i64 u.b.im, .int .i64 u.b.den, .int .i64 u.c.re, .int .i64 u.c.im, .int .i64 u.c.den, .int .i64 u.d.re, .int .i64 u.d.im, .int .i64 u.d.den] 51)) := ⟨_, rfl⟩
      have HB : Hid (Below w.heap.size w w6) := by show Below _ _ _; rw [hV]; exact (Below.alloc HB.out (by first | omega | (simp; done) | (simp <;> omega)) _)
      have Ha : Hid (w6.rangeAt (w1.heap.size) 0 [.int .i64 a.a.re, .int .i64 a.a.im, .int .i64 a.a.den, .int .i64 a.b.re, .int .i64 a.b.im, .int .i64 a.b.den, .int .i64 a.c.re, .int .i64 a.c.im, .int .i64 a.c.den, .int .i64 a.d.re, .int .i64 a.d.im, .int .i64 a.d.den]) := by show World.rangeAt _ _ _ _; rw [hV]; exact (World.rangeAt_alloc Ha.out _)
      have Hv : Hid (w6.rangeAt (w4.heap.size) 0 [.int .i64 v.x.re, .int .i64 v.x.im, .int .i64 v.x.den, .int .i64 v.y.re, .int .i64 v.y.im, .int .i64 v.y.den]) := by show World.rangeAt _ _ _ _; rw [hV]; exact (World.rangeAt_alloc Hv.out _)
      have Hu : Hid (w6.rangeAt (w5.heap.size) 0 [.int .i64 u.a.re, .int .i64 u.a.im, .int .i64 u.a.den, .int .i64 u.b.re, .int .i64 u.b.im, .int .i64 u.b.den, .int .i64 u.c.re, .int .i64 u.c.im, .int .i64 u.c.den, .int .i64 u.d.re, .int .i64 u.d.im, .int .i64 u.d.den]) := by show World.rangeAt _ _ _ _; rw [hV]; exact (rangeAt_new _ _ _)
      have hz6 : w5.heap.size + 1 ≤ w6.heap.size := by rw [hV]; simp
      have nA0 : w1.heap.size < w6.heap.size := by omega
      have nB0 : ¬ w1.heap.size = w6.heap.size := by omega
      have nC0 : ¬ w6.heap.size = w1.heap.size := by omega
      have nA1 : w4.heap.size < w6.heap.size := by omega
      have nB1 : ¬ w4.heap.size = w6.heap.size := by omega
      have nC1 : ¬ w6.heap.size = w4.heap.size := by omega
      have nA2 : w5.heap.size < w6.heap.size := by omega
      have nB2 : ¬ w5.heap.size = w6.heap.size := by omega
      have nC2 : ¬ w6.heap.size = w5.heap.size := by omega
      go_wp2_with fail
      rw [← hV]
      clear hV
      go_loopw [10, 11] (fun s i wr => ∃ k : Nat, i = .int .i64 k ∧ k ≤ 4 ∧ s = .bool (smB u a k) ∧ wr = w6) (fun _ i _ => (4 - intOf i).toNat)
      case atStart => exact ⟨0, rfl, by omega, rfl, rfl⟩
      case round =>
        obtain ⟨k, rfl, hk, rfl, hwr⟩ := hrel
        have hwr := hwr.symm
        subst hwr
        by_cases h4 : k < 4
        · obtain ⟨c0, c1, c2⟩ := sbox_of4 (m := u) Hu.out k h4
          obtain ⟨d0, d1, d2⟩ := sbox_of4 (m := a) Ha.out k h4
          have i0 : (0 : Int) ≤ (k : Int) := by omega
          have i1 : (k : Int) < 4 := by omega
          clear c1 d1
          cases hs : smB u a k
          · have HS : Hid (smB u a (k + 1) = false) := smB_no hs
            go_wp2
            go_roundw
            case rel => exact ⟨k + 1, by go_num, by omega, by rw [HS.out], by first | rfl | trivial⟩
            case measure => simp [intOf]; omega
          · skip
            by_cases t1 : (u.get k).re < 10000
            case neg =>
              have HS : Hid (smB u a (k + 1) = false) := smB_bad (fun ⟨x1, x2, x3, x4, x5, x6⟩ => t1 x1)
              go_wp2
              go_roundw
              case rel => exact ⟨k + 1, by go_num, by omega, by rw [HS.out], by first | rfl | trivial⟩
              case measure => simp [intOf]; omega
            by_cases t2 : (-10000 : Int) < (u.get k).re
            case neg =>
              have HS : Hid (smB u a (k + 1) = false) := smB_bad (fun ⟨x1, x2, x3, x4, x5, x6⟩ => t2 x2)
              go_wp2
              go_roundw
              case rel => exact ⟨k + 1, by go_num, by omega, by rw [HS.out], by first | rfl | trivial⟩
              case measure => simp [intOf]; omega
            by_cases t3 : (a.get k).re < 10000
            case neg =>
              have HS : Hid (smB u a (k + 1) = false) := smB_bad (fun ⟨x1, x2, x3, x4, x5, x6⟩ => t3 x3)
              go_wp2
              go_roundw
              case rel => exact ⟨k + 1, by go_num, by omega, by rw [HS.out], by first | rfl | trivial⟩
              case measure => simp [intOf]; omega
            by_cases t4 : (-10000 : Int) < (a.get k).re
            case neg =>
              have HS : Hid (smB u a (k + 1) = false) := smB_bad (fun ⟨x1, x2, x3, x4, x5, x6⟩ => t4 x4)
              go_wp2
              go_roundw
              case rel => exact ⟨k + 1, by go_num, by omega, by rw [HS.out], by first | rfl | trivial⟩
              case measure => simp [intOf]; omega
            by_cases t5 : (u.get k).den < 10000
            case neg =>
              have HS : Hid (smB u a (k + 1) = false) := smB_bad (fun ⟨x1, x2, x3, x4, x5, x6⟩ => t5 x5)
              go_wp2
              go_roundw
              case rel => exact ⟨k + 1, by go_num, by omega, by rw [HS.out], by first | rfl | trivial⟩
              case measure => simp [intOf]; omega
            by_cases t6 : (a.get k).den < 10000
            case neg =>
              have HS : Hid (smB u a (k + 1) = false) := smB_bad (fun ⟨x1, x2, x3, x4, x5, x6⟩ => t6 x6)
              go_wp2
              go_roundw
              case rel => exact ⟨k + 1, by go_num, by omega, by rw [HS.out], by first | rfl | trivial⟩
              case measure => simp [intOf]; omega
            have HS : Hid (smB u a (k + 1) = true) := smB_yes hs ⟨t1, t2, t3, t4, t5, t6⟩
            go_wp2
            go_roundw
            case rel => exact ⟨k + 1, by go_num, by omega, by rw [HS.out], by first | rfl | trivial⟩
            case measure => simp [intOf]; omega
        obtain rfl : k = 4 := by omega
        clear h4 hk
        cases hs : smB u a 4
        · skip
          go_wp2_with (first | ((with_reducible refine wpList_load_mid ?kl81 51 ?kl8x ?kl82 (w1.heap.size) 0 ?kl83 [.int .i64 a.a.re, .int .i64 a.a.im, .int .i64 a.a.den, .int .i64 a.b.re, .int .i64 a.b.im, .int .i64 a.b.den, .int .i64 a.c.re, .int .i64 a.c.im, .int .i64 a.c.den, .int .i64 a.d.re, .int .i64 a.d.im, .int .i64 a.d.den] ?kl8d ?kl84 ?kl85 ?kl86 ?kl87 ?kl88); (case kl82 => rfl); (case kl81 => rfl); (case kl83 => rfl); (case kl84 => (exact Ha.out)); (case kl85 => exact Tryd.underlying51); (case kl86 => rfl); (case kl87 => kernel_rfl)))
          refine (ilight_any a _).mono ?_
          rintro e w7 ho
          rw [HL.out] at ho
          obtain ⟨rfl, hb⟩ : e = .returned (.bool true) ∧ Below _ _ _ := (id ho)
          clear ho
          have HB := Lib.hid (show Below w.heap.size w w7 from HB.out.trans ((show Below _ _ _ from (Below.refl _ _)).trans (hb.mono (by first | omega | (simp <;> omega)))))
          have Ha : Hid (w7.rangeAt (w1.heap.size) 0 [.int .i64 a.a.re, .int .i64 a.a.im, .int .i64 a.a.den, .int .i64 a.b.re, .int .i64 a.b.im, .int .i64 a.b.den, .int .i64 a.c.re, .int .i64 a.c.im, .int .i64 a.c.den, .int .i64 a.d.re, .int .i64 a.d.im, .int .i64 a.d.den]) := rangeAt_below Ha.out hb (by first | omega | (simp; done) | (simp <;> omega))
          have Hv : Hid (w7.rangeAt (w4.heap.size) 0 [.int .i64 v.x.re, .int .i64 v.x.im, .int .i64 v.x.den, .int .i64 v.y.re, .int .i64 v.y.im, .int .i64 v.y.den]) := rangeAt_below Hv.out hb (by first | omega | (simp; done) | (simp <;> omega))
          have Hu : Hid (w7.rangeAt (w5.heap.size) 0 [.int .i64 u.a.re, .int .i64 u.a.im, .int .i64 u.a.den, .int .i64 u.b.re, .int .i64 u.b.im, .int .i64 u.b.den, .int .i64 u.c.re, .int .i64 u.c.im, .int .i64 u.c.den, .int .i64 u.d.re, .int .i64 u.d.im, .int .i64 u.d.den]) := rangeAt_below Hu.out hb (by first | omega | (simp; done) | (simp <;> omega))
          have hz7 := hb.size
          (try simp at hz7)
          clear hb
          have nA0 : w1.heap.size < w7.heap.size := by omega
          have nB0 : ¬ w1.heap.size = w7.heap.size := by omega
          have nC0 : ¬ w7.heap.size = w1.heap.size := by omega
          have nA1 : w4.heap.size < w7.heap.size := by omega
          have nB1 : ¬ w4.heap.size = w7.heap.size := by omega
          have nC1 : ¬ w7.heap.size = w4.heap.size := by omega
          have nA2 : w5.heap.size < w7.heap.size := by omega
          have nB2 : ¬ w5.heap.size = w7.heap.size := by omega
          have nC2 : ¬ w7.heap.size = w5.heap.size := by omega
          cases b1
          · skip
            go_wp2_with fail
            go_ret
            exact ⟨rfl, (by (repeat' first | (with_reducible exact HB.out) | with_reducible refine setCells_below _ _ _ ?_ (by first | omega | (simp <;> omega)) | with_reducible refine Below.setCell ?_ (by show _ ≤ _; first | omega | (simp <;> omega) | simp) _ | with_reducible refine Below.alloc ?_ (by first | omega | (simp <;> omega)) _ | with_reducible apply Below.drew | with_reducible refine below_drewN ?_ _))⟩
          · skip
            go_wp2_with fail
            go_ret
            exact ⟨rfl, (by (repeat' first | (with_reducible exact HB.out) | with_reducible refine setCells_below _ _ _ ?_ (by first | omega | (simp <;> omega)) | with_reducible refine Below.setCell ?_ (by show _ ≤ _; first | omega | (simp <;> omega) | simp) _ | with_reducible refine Below.alloc ?_ (by first | omega | (simp <;> omega)) _ | with_reducible apply Below.drew | with_reducible refine below_drewN ?_ _))⟩
        · skip
          go_wp2_with (first | ((with_reducible refine wpList_load_mid ?kl91 51 ?kl9x ?kl92 (w1.heap.size) 0 ?kl93 [.int .i64 a.a.re, .int .i64 a.a.im, .int .i64 a.a.den, .int .i64 a.b.re, .int .i64 a.b.im, .int .i64 a.b.den, .int .i64 a.c.re, .int .i64 a.c.im, .int .i64 a.c.den, .int .i64 a.d.re, .int .i64 a.d.im, .int .i64 a.d.den] ?kl9d ?kl94 ?kl95 ?kl96 ?kl97 ?kl98); (case kl92 => rfl); (case kl91 => rfl); (case kl93 => rfl); (case kl94 => (exact Ha.out)); (case kl95 => exact Tryd.underlying51); (case kl96 => rfl); (case kl97 => kernel_rfl)))
          refine (ilight_any a _).mono ?_
          rintro e w7 ho
          rw [HL.out] at ho
          obtain ⟨rfl, hb⟩ : e = .returned (.bool true) ∧ Below _ _ _ := (id ho)
          clear ho
          have HB := Lib.hid (show Below w.heap.size w w7 from HB.out.trans ((show Below _ _ _ from (Below.refl _ _)).trans (hb.mono (by first | omega | (simp <;> omega)))))
          have Ha : Hid (w7.rangeAt (w1.heap.size) 0 [.int .i64 a.a.re, .int .i64 a.a.im, .int .i64 a.a.den, .int .i64 a.b.re, .int .i64 a.b.im, .int .i64 a.b.den, .int .i64 a.c.re, .int .i64 a.c.im, .int .i64 a.c.den, .int .i64 a.d.re, .int .i64 a.d.im, .int .i64 a.d.den]) := rangeAt_below Ha.out hb (by first | omega | (simp; done) | (simp <;> omega))
          have Hv : Hid (w7.rangeAt (w4.heap.size) 0 [.int .i64 v.x.re, .int .i64 v.x.im, .int .i64 v.x.den, .int .i64 v.y.re, .int .i64 v.y.im, .int .i64 v.y.den]) := rangeAt_below Hv.out hb (by first | omega | (simp; done) | (simp <;> omega))
          have Hu : Hid (w7.rangeAt (w5.heap.size) 0 [.int .i64 u.a.re, .int .i64 u.a.im, .int .i64 u.a.den, .int .i64 u.b.re, .int .i64 u.b.im, .int .i64 u.b.den, .int .i64 u.c.re, .int .i64 u.c.im, .int .i64 u.c.den, .int .i64 u.d.re, .int .i64 u.d.im, .int .i64 u.d.den]) := rangeAt_below Hu.out hb (by first | omega | (simp; done) | (simp <;> omega))
          have hz7 := hb.size
          (try simp at hz7)
          clear hb
          have nA0 : w1.heap.size < w7.heap.size := by omega
          have nB0 : ¬ w1.heap.size = w7.heap.size := by omega
          have nC0 : ¬ w7.heap.size = w1.heap.size := by omega
          have nA1 : w4.heap.size < w7.heap.size := by omega
          have nB1 : ¬ w4.heap.size = w7.heap.size := by omega
          have nC1 : ¬ w7.heap.size = w4.heap.size := by omega
          have nA2 : w5.heap.size < w7.heap.size := by omega
          have nB2 : ¬ w5.heap.size = w7.heap.size := by omega
          have nC2 : ¬ w7.heap.size = w5.heap.size := by omega
          cases b1
          · skip
            go_wp2_with fail
            go_ret
            exact ⟨rfl, (by (repeat' first | (with_reducible exact HB.out) | with_reducible refine setCells_below _ _ _ ?_ (by first | omega | (simp <;> omega)) | with_reducible refine Below.setCell ?_ (by show _ ≤ _; first | omega | (simp <;> omega) | simp) _ | with_reducible refine Below.alloc ?_ (by first | omega | (simp <;> omega)) _ | with_reducible apply Below.drew | with_reducible refine below_drewN ?_ _))⟩
          · skip
            have hal := law_pure HV.out HS2.out (fun k hk => (smB_all hs k hk).2) (fun k hk => (smB_all hs k hk).1)
            clear hs
            have za_0 : w7.cell? ⟨w1.heap.size, 0, none⟩ = some (.int .i64 a.a.re) := by have := Ha.out 0 _ rfl; rwa [Nat.zero_add] at this
            have za_1 : w7.cell? ⟨w1.heap.size, 1, none⟩ = some (.int .i64 a.a.im) := by have := Ha.out 1 _ rfl; rwa [Nat.zero_add] at this
            have za_2 : w7.cell? ⟨w1.heap.size, 2, none⟩ = some (.int .i64 a.a.den) := by have := Ha.out 2 _ rfl; rwa [Nat.zero_add] at this
            have za_3 : w7.cell? ⟨w1.heap.size, 3, none⟩ = some (.int .i64 a.b.re) := by have := Ha.out 3 _ rfl; rwa [Nat.zero_add] at this
            have za_4 : w7.cell? ⟨w1.heap.size, 4, none⟩ = some (.int .i64 a.b.im) := by have := Ha.out 4 _ rfl; rwa [Nat.zero_add] at this
            have za_5 : w7.cell? ⟨w1.heap.size, 5, none⟩ = some (.int .i64 a.b.den) := by have := Ha.out 5 _ rfl; rwa [Nat.zero_add] at this
            have za_6 : w7.cell? ⟨w1.heap.size, 6, none⟩ = some (.int .i64 a.c.re) := by have := Ha.out 6 _ rfl; rwa [Nat.zero_add] at this
            have za_7 : w7.cell? ⟨w1.heap.size, 7, none⟩ = some (.int .i64 a.c.im) := by have := Ha.out 7 _ rfl; rwa [Nat.zero_add] at this
            have za_8 : w7.cell? ⟨w1.heap.size, 8, none⟩ = some (.int .i64 a.c.den) := by have := Ha.out 8 _ rfl; rwa [Nat.zero_add] at this
            have za_9 : w7.cell? ⟨w1.heap.size, 9, none⟩ = some (.int .i64 a.d.re) := by have := Ha.out 9 _ rfl; rwa [Nat.zero_add] at this
            have za_10 : w7.cell? ⟨w1.heap.size, 10, none⟩ = some (.int .i64 a.d.im) := by have := Ha.out 10 _ rfl; rwa [Nat.zero_add] at this
            have za_11 : w7.cell? ⟨w1.heap.size, 11, none⟩ = some (.int .i64 a.d.den) := by have := Ha.out 11 _ rfl; rwa [Nat.zero_add] at this
            have zu_0 : w7.cell? ⟨w5.heap.size, 0, none⟩ = some (.int .i64 u.a.re) := by have := Hu.out 0 _ rfl; rwa [Nat.zero_add] at this
            have zu_1 : w7.cell? ⟨w5.heap.size, 1, none⟩ = some (.int .i64 u.a.im) := by have := Hu.out 1 _ rfl; rwa [Nat.zero_add] at this
            have zu_2 : w7.cell? ⟨w5.heap.size, 2, none⟩ = some (.int .i64 u.a.den) := by have := Hu.out 2 _ rfl; rwa [Nat.zero_add] at this
            have zu_3 : w7.cell? ⟨w5.heap.size, 3, none⟩ = some (.int .i64 u.b.re) := by have := Hu.out 3 _ rfl; rwa [Nat.zero_add] at this
            have zu_4 : w7.cell? ⟨w5.heap.size, 4, none⟩ = some (.int .i64 u.b.im) := by have := Hu.out 4 _ rfl; rwa [Nat.zero_add] at this
            have zu_5 : w7.cell? ⟨w5.heap.size, 5, none⟩ = some (.int .i64 u.b.den) := by have := Hu.out 5 _ rfl; rwa [Nat.zero_add] at this
            have zu_6 : w7.cell? ⟨w5.heap.size, 6, none⟩ = some (.int .i64 u.c.re) := by have := Hu.out 6 _ rfl; rwa [Nat.zero_add] at this
            have zu_7 : w7.cell? ⟨w5.heap.size, 7, none⟩ = some (.int .i64 u.c.im) := by have := Hu.out 7 _ rfl; rwa [Nat.zero_add] at this
            have zu_8 : w7.cell? ⟨w5.heap.size, 8, none⟩ = some (.int .i64 u.c.den) := by have := Hu.out 8 _ rfl; rwa [Nat.zero_add] at this
            have zu_9 : w7.cell? ⟨w5.heap.size, 9, none⟩ = some (.int .i64 u.d.re) := by have := Hu.out 9 _ rfl; rwa [Nat.zero_add] at this
            have zu_10 : w7.cell? ⟨w5.heap.size, 10, none⟩ = some (.int .i64 u.d.im) := by have := Hu.out 10 _ rfl; rwa [Nat.zero_add] at this
            have zu_11 : w7.cell? ⟨w5.heap.size, 11, none⟩ = some (.int .i64 u.d.den) := by have := Hu.out 11 _ rfl; rwa [Nat.zero_add] at this
            go_wp2_with fail
            refine (isal_any a u _).mono ?_
            rintro e w8 ho
            rw [hal] at ho
            obtain ⟨rfl, hb⟩ : e = .returned (.bool true) ∧ Below _ _ _ := (id ho)
            clear ho
            have HB := Lib.hid (show Below w.heap.size w w8 from HB.out.trans ((show Below _ _ _ from (Below.refl _ _)).trans (hb.mono (by first | omega | (simp <;> omega)))))
            have Ha : Hid (w8.rangeAt (w1.heap.size) 0 [.int .i64 a.a.re, .int .i64 a.a.im, .int .i64 a.a.den, .int .i64 a.b.re, .int .i64 a.b.im, .int .i64 a.b.den, .int .i64 a.c.re, .int .i64 a.c.im, .int .i64 a.c.den, .int .i64 a.d.re, .int .i64 a.d.im, .int .i64 a.d.den]) := rangeAt_below Ha.out hb (by first | omega | (simp; done) | (simp <;> omega))
            have Hv : Hid (w8.rangeAt (w4.heap.size) 0 [.int .i64 v.x.re, .int .i64 v.x.im, .int .i64 v.x.den, .int .i64 v.y.re, .int .i64 v.y.im, .int .i64 v.y.den]) := rangeAt_below Hv.out hb (by first | omega | (simp; done) | (simp <;> omega))
            have Hu : Hid (w8.rangeAt (w5.heap.size) 0 [.int .i64 u.a.re, .int .i64 u.a.im, .int .i64 u.a.den, .int .i64 u.b.re, .int .i64 u.b.im, .int .i64 u.b.den, .int .i64 u.c.re, .int .i64 u.c.im, .int .i64 u.c.den, .int .i64 u.d.re, .int .i64 u.d.im, .int .i64 u.d.den]) := rangeAt_below Hu.out hb (by first | omega | (simp; done) | (simp <;> omega))
            have hz8 := hb.size
            (try simp at hz8)
            clear hb
            have nA0 : w1.heap.size < w8.heap.size := by omega
            have nB0 : ¬ w1.heap.size = w8.heap.size := by omega
            have nC0 : ¬ w8.heap.size = w1.heap.size := by omega
            have nA1 : w4.heap.size < w8.heap.size := by omega
            have nB1 : ¬ w4.heap.size = w8.heap.size := by omega
            have nC1 : ¬ w8.heap.size = w4.heap.size := by omega
            have nA2 : w5.heap.size < w8.heap.size := by omega
            have nB2 : ¬ w5.heap.size = w8.heap.size := by omega
            have nC2 : ¬ w8.heap.size = w5.heap.size := by omega
            go_wp2_with fail
            go_ret
            exact ⟨rfl, (by (repeat' first | (with_reducible exact HB.out) | with_reducible refine setCells_below _ _ _ ?_ (by first | omega | (simp <;> omega)) | with_reducible refine Below.setCell ?_ (by show _ ≤ _; first | omega | (simp <;> omega) | simp) _ | with_reducible refine Below.alloc ?_ (by first | omega | (simp <;> omega)) _ | with_reducible apply Below.drew | with_reducible refine below_drewN ?_ _))⟩
set_option maxRecDepth 100000 in
theorem door_FnPure (os : Os) (args : Array Value) : laidMetH Tryd.prog Rows.fnPureRow.laid ((World.doorLaid Tryd.prog 43 os).forCall (fun _ _ => 0) ⟨#[], args, []⟩).memory :=
  laidMetH_of_parts3 (fuel := 8) (laidMet_of_run' 8 (by kernel_rfl) (by kernel_rfl)) (by kernel_rfl) (by kernel_rfl)
set_option maxRecDepth 100000 in
theorem lifted_FnPure (os : Os) (started : os.Started) (H : Type) (enc : TypeId × Value → H) :
    ReturnsInHanded {} Tryd.checked os 10 .any (fun w args => (Rows.fnPureSpec.pre enc Tryd.prog Tryd.f10 [] false w args ∧ laidMetH Tryd.prog Rows.fnPureRow.laid w) ∧ sizedMet enc Tryd.prog Tryd.f10 (OpenSpec.ofChange Rows.fnPureSpec) false w args) (Rows.fnPureSpec.post enc Tryd.prog Tryd.f10 false true false false) := by
  refine returnsInHanded_of_change_and (C := Tryd.checked) (X := fun w _ => laidMetH Tryd.prog Rows.fnPureRow.laid w) (fun _ _ _ hh h => h.of_heap hh) Tryd.own started (by kernel_rfl) Tryd.func10
    (ChangeSpec.witness_shaped (enc := enc) (C := Tryd.checked) (os := os) (X := fun w _ => laidMetH Tryd.prog Rows.fnPureRow.laid w) false (World.doorLaid Tryd.prog 43 os) #[.slice none 0 0] 8 rfl (World.shaped_of_RefB (by kernel_rfl) (by kernel_rfl)) (by kernel_rfl) (by kernel_rfl) (by kernel_rfl) (door_FnPure os _)) ?_
  intro W base args ds gs before hval0 hW _ _ hL _
  have hval : ∀ (j : Nat) t v, Tryd.f10.params[j]? = some t → args[j]? = some v → Value.okWide Tryd.prog W .any base t v := hval0
  have hW' := hW
  obtain ⟨p, q, hA0, hV, rfl, hfz, hnd⟩ := hW
  have hA : DataW.TrodAll enc Tryd.prog W 0 (fun _ => true) true Tryd.f10.params.toList args.toList ds p := hA0
  rw [Tryd.params10] at hA hval
  obtain ⟨v0, d0, rfl, rfl, h0⟩ := trodAll_one hA
  obtain ⟨g0, g1, rfl⟩ := len2 (vars_len hV)
  have hG_zero := gat_zero hL (by decide) (by simp [Rows.fnPureRow, Rows.laid_loop_example_polarisedlight_impl_zero])
  have hG_unit := gat_unit hL (by decide) (by simp [Rows.fnPureRow, Rows.laid_loop_example_polarisedlight_impl_unit])
  have h0k := h0
  obtain ⟨fuel, hf⟩ := h0
  clear hA0 hval0
  have hlt : ∀ x ∈ p, x.block < W.heap.size := fun x hx => by simpa using hW'.lt x (List.mem_append_left _ hx)
  obtain ⟨a0, len, cap, rfl⟩ := okWide_slice Tryd.underlying55 (hval 0 55 v0 rfl rfl)
  obtain ⟨hcap, HC⟩ := open_code hf hlt
  refine (walk_FnPure a0 len cap W hcap HC hG_zero hG_unit).mono fun e W' ⟨he, hb⟩ => ?_
  subst he
  refine ⟨_, rfl, _, _, _, [], p, q, hW', trodAll_mk1 (shut_bool Tryd.underlying4 _), trodAll_mk1 (Below.trod Tryd.laidOut (by kernel_rfl) (of_decide_eq_true (by kernel_rfl)) h0k hb (fun x hx => hlt x (by simp [hx]))), Below.trodVars Tryd.laidOut hb (by kernel_rfl) hV, hb.frame _, fun h => by cases h⟩
theorem said_FnPure : Rows.FnPureSaid :=
  OpenClaim.holds_of_wide 10 Tryd.f10 rfl rfl rfl rfl rfl rfl rfl ⟨rfl, rfl, rfl, rfl, rfl⟩ rfl rfl rfl rfl rfl (by kernel_rfl) Tryd.func10 (by kernel_rfl)
    (of_decide_eq_true (by kernel_rfl)) (by unfold Func.isWrapper; first | (rw [if_pos (by decide +kernel)]; kernel_rfl) | (rw [if_neg (by decide +kernel)]; exact ⟨rfl, rfl⟩))
    (fun os started H enc _ => lifted_FnPure os started H enc)
set_option maxRecDepth 100000 in
/-- THE STATEMENT: THE CARD. -/
theorem holds_FnPure : Rows.FnPureCardSaid :=
  Claim7.holds_tied_plain_at .later [] [.data, .data] true (true, "4641a63997bae2f3f605d4183781842987cd6e93f60671f0fe7f4fb0ecf64798") false
    said_FnPure (fun _ h => by cases h) (by kernel_rfl) (fun _ h => by cases h) fnPure_row_tie rfl ⟨rfl, rfl⟩ (by kernel_rfl) rfl
    (fun f fn hf hfn => by
      obtain rfl : f = 10 := Option.some.inj ((show Tryd.prog.funcNamed "loop.example/polarisedlight/laws.FnPure" = some 10 by kernel_rfl).symm.trans hf) |>.symm
      obtain rfl : fn = Tryd.f10 := (Option.some.inj (Tryd.func10.symm.trans hfn)).symm
      exact ⟨by kernel_rfl, fun j t ht => by
        rw [Tryd.params10] at ht
        have hm : t ∈ [55] := by simpa using Array.mem_of_getElem? ht
        have hall : ([55].all fun u => !Tryd.prog.wantsStandIn u) = true := by kernel_rfl
        exact (show Tryd.prog.wantsStandIn t = false by simpa using List.all_eq_true.1 hall t hm)⟩)
    (by kernel_rfl)
end Go.Proofs.YtmcokdiopcpifaaDoor
