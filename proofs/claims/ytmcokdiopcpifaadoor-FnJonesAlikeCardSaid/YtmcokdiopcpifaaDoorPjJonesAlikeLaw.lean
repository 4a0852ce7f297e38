/- Alike vectors have alike four numbers. The row lists package-level variables, and the card ties them to the text of the program: the pruned copy of the project that the seat holds. -/
import Derived.Test.YtmcokdiopcpifaaDoorPjG16
import Derived.Test.YtmcokdiopcpifaaDoorPjSJI
import Derived.Test.YtmcokdiopcpifaaDoorPjG26
import Derived.Test.YtmcokdiopcpifaaDoorPjSL
import Derived.Test.YtmcokdiopcpifaaDoorPjDAJ
import Derived.Test.YtmcokdiopcpifaaDoorTie
import Derived.Test.YtmcokdiopcpifaaDoorCards
import Derived.SevenTiedAt
set_option maxRecDepth 100000
namespace Go.Proofs.YtmcokdiopcpifaaDoor
open Go.ChangeShapes Go.WideShapes Go.ChangeAt Go.RowKit Pol
set_option maxRecDepth 100000 in
set_option maxHeartbeats 40000000 in
theorem walk_FnJonesAlike (a0 : Option Addr) (len cap : Nat) (w : World) (hcap : len ≤ cap) (HC : Code w.heap.size w a0 len) (hg_zero : Gat w 1 (ixF f0) 1) :
    Calls Tryd.prog 8 #[.slice a0 len cap] w fun e w' => e = .returned (.bool true) ∧ Below w.heap.size w w' := by
  by_cases hbig : 1048576 < len
  · have h1 : (1048576 : Int) < (len : Int) := by omega
    go_enter Tryd.func8, Tryd.ntmps8
    go_wp2
    go_ret
    exact ⟨rfl, Below.refl _ _⟩
  have h1 : ¬ (1048576 : Int) < (len : Int) := by omega
  have HB : Hid (Below w.heap.size w w) := Below.refl _ _
  have HG_zero := Lib.hid hg_zero; clear hg_zero
  go_enter Tryd.func8, Tryd.ntmps8
  go_wp2_with fail
  refine (DrawJonesAlike_any a0 len cap _ hcap HC).mono ?_
  rintro e w1 ⟨a, b, rfl, hb⟩
  have HB := Lib.hid (show Below w.heap.size w w1 from HB.out.trans ((show Below _ _ _ from (Below.refl _ _)).trans (hb.mono (by first | omega | (simp <;> omega)))))
  have hz1 := hb.size
  (try simp at hz1)
  clear hb
  cases hl : gJAl a b
  · skip
    go_wp2_with (first | ((with_reducible refine wpList_load_mid ?kl11 47 ?kl1x ?kl12 (w1.heap.size) 0 ?kl13 [.int .i64 a.x.re, .int .i64 a.x.im, .int .i64 a.x.den, .int .i64 a.y.re, .int .i64 a.y.im, .int .i64 a.y.den] ?kl1d ?kl14 ?kl15 ?kl16 ?kl17 ?kl18); (case kl12 => rfl); (case kl11 => rfl); (case kl13 => rfl); (case kl14 => (exact (World.rangeAt_alloc (rangeAt_new _ _ _) _))); (case kl15 => exact Tryd.underlying47); (case kl16 => rfl); (case kl17 => kernel_rfl)) | ((with_reducible refine wpList_load_mid ?kl21 47 ?kl2x ?kl22 (w1.heap.size + 1) 0 ?kl23 [.int .i64 b.x.re, .int .i64 b.x.im, .int .i64 b.x.den, .int .i64 b.y.re, .int .i64 b.y.im, .int .i64 b.y.den] ?kl2d ?kl24 ?kl25 ?kl26 ?kl27 ?kl28); (case kl22 => rfl); (case kl21 => rfl); (case kl23 => rfl); (case kl24 => (exact (rangeAt_nw (by simp)))); (case kl25 => exact Tryd.underlying47); (case kl26 => rfl); (case kl27 => kernel_rfl)))
    refine (ijal_any a b _ (HG_zero.out.below (Below.alloc (Below.alloc HB.out (by first | omega | (simp; done) | (simp <;> omega)) _) (by first | omega | (simp; done) | (simp <;> omega)) _))).mono ?_
    rintro e w2 ho
    rw [hl] at ho
    obtain ⟨rfl, hb⟩ : e = .returned (.bool false) ∧ Below _ _ _ := (id ho)
    clear ho
    have HB := Lib.hid (show Below w.heap.size w w2 from HB.out.trans ((show Below _ _ _ from (((Below.refl _ _).alloc (by first | omega | (simp; done) | (simp <;> omega)) _).alloc (by first | omega | (simp; done) | (simp <;> omega)) _)).trans (hb.mono (by first | omega | (simp <;> omega)))))
    have Ha : Hid (w2.rangeAt (w1.heap.size) 0 [.int .i64 a.x.re, .int .i64 a.x.im, .int .i64 a.x.den, .int .i64 a.y.re, .int .i64 a.y.im, .int .i64 a.y.den]) := rangeAt_below (World.rangeAt_alloc (rangeAt_new _ _ _) _) hb (by first | omega | (simp; done) | (simp <;> omega))
    have Hb : Hid (w2.rangeAt (w1.heap.size + 1) 0 [.int .i64 b.x.re, .int .i64 b.x.im, .int .i64 b.x.den, .int .i64 b.y.re, .int .i64 b.y.im, .int .i64 b.y.den]) := rangeAt_below (rangeAt_nw (by simp)) hb (by first | omega | (simp; done) | (simp <;> omega))
    have hz2 := hb.size
    (try simp at hz2)
    clear hb
    have nA0 : w1.heap.size < w2.heap.size := by omega
    have nB0 : ¬ w1.heap.size = w2.heap.size := by omega
    have nC0 : ¬ w2.heap.size = w1.heap.size := by omega
    have nA1 : w1.heap.size + 1 < w2.heap.size := by omega
    have nB1 : ¬ w1.heap.size + 1 = w2.heap.size := by omega
    have nC1 : ¬ w2.heap.size = w1.heap.size + 1 := by omega
    go_wp2_with (first | ((with_reducible refine wpList_load_mid ?kl31 47 ?kl3x ?kl32 (w1.heap.size) 0 ?kl33 [.int .i64 a.x.re, .int .i64 a.x.im, .int .i64 a.x.den, .int .i64 a.y.re, .int .i64 a.y.im, .int .i64 a.y.den] ?kl3d ?kl34 ?kl35 ?kl36 ?kl37 ?kl38); (case kl32 => rfl); (case kl31 => rfl); (case kl33 => rfl); (case kl34 => (exact Ha.out)); (case kl35 => exact Tryd.underlying47); (case kl36 => rfl); (case kl37 => kernel_rfl)) | ((with_reducible refine wpList_load_mid ?kl41 47 ?kl4x ?kl42 (w1.heap.size + 1) 0 ?kl43 [.int .i64 b.x.re, .int .i64 b.x.im, .int .i64 b.x.den, .int .i64 b.y.re, .int .i64 b.y.im, .int .i64 b.y.den] ?kl4d ?kl44 ?kl45 ?kl46 ?kl47 ?kl48); (case kl42 => rfl); (case kl41 => rfl); (case kl43 => rfl); (case kl44 => (exact Hb.out)); (case kl45 => exact Tryd.underlying47); (case kl46 => rfl); (case kl47 => kernel_rfl)))
    refine (sjal_any a b _).mono ?_
    rintro e w3 ho
    rw [hl] at ho
    obtain ⟨rfl, hb⟩ : e = .returned (.bool false) ∧ Below _ _ _ := (id ho)
    clear ho
    have HB := Lib.hid (show Below w.heap.size w w3 from HB.out.trans ((show Below _ _ _ from (Below.refl _ _)).trans (hb.mono (by first | omega | (simp <;> omega)))))
    have Ha : Hid (w3.rangeAt (w1.heap.size) 0 [.int .i64 a.x.re, .int .i64 a.x.im, .int .i64 a.x.den, .int .i64 a.y.re, .int .i64 a.y.im, .int .i64 a.y.den]) := rangeAt_below Ha.out hb (by first | omega | (simp; done) | (simp <;> omega))
    have Hb : Hid (w3.rangeAt (w1.heap.size + 1) 0 [.int .i64 b.x.re, .int .i64 b.x.im, .int .i64 b.x.den, .int .i64 b.y.re, .int .i64 b.y.im, .int .i64 b.y.den]) := rangeAt_below Hb.out hb (by first | omega | (simp; done) | (simp <;> omega))
    have hz3 := hb.size
    (try simp at hz3)
    clear hb
    have nA0 : w1.heap.size < w3.heap.size := by omega
    have nB0 : ¬ w1.heap.size = w3.heap.size := by omega
    have nC0 : ¬ w3.heap.size = w1.heap.size := by omega
    have nA1 : w1.heap.size + 1 < w3.heap.size := by omega
    have nB1 : ¬ w1.heap.size + 1 = w3.heap.size := by omega
    have nC1 : ¬ w3.heap.size = w1.heap.size + 1 := by omega
    go_wp2_with fail
    go_ret
    exact ⟨rfl, (by (repeat' first | (with_reducible exact HB.out) | with_reducible refine setCells_below _ _ _ ?_ (by first | omega | (simp <;> omega)) | with_reducible refine Below.setCell ?_ (by show _ ≤ _; first | omega | (simp <;> omega) | simp) _ | with_reducible refine Below.alloc ?_ (by first | omega | (simp <;> omega)) _ | with_reducible apply Below.drew | with_reducible refine below_drewN ?_ _))⟩
  · skip
    have hl2 : gJAl b a = true := by rw [gJAl_comm]; exact hl
    go_wp2_with (first | ((with_reducible refine wpList_load_mid ?kl51 47 ?kl5x ?kl52 (w1.heap.size) 0 ?kl53 [.int .i64 a.x.re, .int .i64 a.x.im, .int .i64 a.x.den, .int .i64 a.y.re, .int .i64 a.y.im, .int .i64 a.y.den] ?kl5d ?kl54 ?kl55 ?kl56 ?kl57 ?kl58); (case kl52 => rfl); (case kl51 => rfl); (case kl53 => rfl); (case kl54 => (exact (World.rangeAt_alloc (rangeAt_new _ _ _) _))); (case kl55 => exact Tryd.underlying47); (case kl56 => rfl); (case kl57 => kernel_rfl)) | ((with_reducible refine wpList_load_mid ?kl61 47 ?kl6x ?kl62 (w1.heap.size + 1) 0 ?kl63 [.int .i64 b.x.re, .int .i64 b.x.im, .int .i64 b.x.den, .int .i64 b.y.re, .int .i64 b.y.im, .int .i64 b.y.den] ?kl6d ?kl64 ?kl65 ?kl66 ?kl67 ?kl68); (case kl62 => rfl); (case kl61 => rfl); (case kl63 => rfl); (case kl64 => (exact (rangeAt_nw (by simp)))); (case kl65 => exact Tryd.underlying47); (case kl66 => rfl); (case kl67 => kernel_rfl)))
    refine (ijal_any a b _ (HG_zero.out.below (Below.alloc (Below.alloc HB.out (by first | omega | (simp; done) | (simp <;> omega)) _) (by first | omega | (simp; done) | (simp <;> omega)) _))).mono ?_
    rintro e w2 ho
    rw [hl] at ho
    obtain ⟨rfl, hb⟩ : e = .returned (.bool true) ∧ Below _ _ _ := (id ho)
    clear ho
    have HB := Lib.hid (show Below w.heap.size w w2 from HB.out.trans ((show Below _ _ _ from (((Below.refl _ _).alloc (by first | omega | (simp; done) | (simp <;> omega)) _).alloc (by first | omega | (simp; done) | (simp <;> omega)) _)).trans (hb.mono (by first | omega | (simp <;> omega)))))
    have Ha : Hid (w2.rangeAt (w1.heap.size) 0 [.int .i64 a.x.re, .int .i64 a.x.im, .int .i64 a.x.den, .int .i64 a.y.re, .int .i64 a.y.im, .int .i64 a.y.den]) := rangeAt_below (World.rangeAt_alloc (rangeAt_new _ _ _) _) hb (by first | omega | (simp; done) | (simp <;> omega))
    have Hb : Hid (w2.rangeAt (w1.heap.size + 1) 0 [.int .i64 b.x.re, .int .i64 b.x.im, .int .i64 b.x.den, .int .i64 b.y.re, .int .i64 b.y.im, .int .i64 b.y.den]) := rangeAt_below (rangeAt_nw (by simp)) hb (by first | omega | (simp; done) | (simp <;> omega))
    have hz2 := hb.size
    (try simp at hz2)
    clear hb
    have nA0 : w1.heap.size < w2.heap.size := by omega
    have nB0 : ¬ w1.heap.size = w2.heap.size := by omega
    have nC0 : ¬ w2.heap.size = w1.heap.size := by omega
    have nA1 : w1.heap.size + 1 < w2.heap.size := by omega
    have nB1 : ¬ w1.heap.size + 1 = w2.heap.size := by omega
    have nC1 : ¬ w2.heap.size = w1.heap.size + 1 := by omega
    go_wp2_with (first | ((with_reducible refine wpList_load_mid ?kl71 47 ?kl7x ?kl72 (w1.heap.size) 0 ?kl73 [.int .i64 a.x.re, .int .i64 a.x.im, .int .i64 a.x.den, .int .i64 a.y.re, .int .i64 a.y.im, .int .i64 a.y.den] ?kl7d ?kl74 ?kl75 ?kl76 ?kl77 ?kl78); (case kl72 => rfl); (case kl71 => rfl); (case kl73 => rfl); (case kl74 => (exact Ha.out)); (case kl75 => exact Tryd.underlying47); (case kl76 => rfl); (case kl77 => kernel_rfl)) | ((with_reducible refine wpList_load_mid ?kl81 47 ?kl8x ?kl82 (w1.heap.size + 1) 0 ?kl83 [.int .i64 b.x.re, .int .i64 b.x.im, .int .i64 b.x.den, .int .i64 b.y.re, .int .i64 b.y.im, .int .i64 b.y.den] ?kl8d ?kl84 ?kl85 ?kl86 ?kl87 ?kl88); (case kl82 => rfl); (case kl81 => rfl); (case kl83 => rfl); (case kl84 => (exact Hb.out)); (case kl85 => exact Tryd.underlying47); (case kl86 => rfl); (case kl87 => kernel_rfl)))
    refine (sjal_any a b _).mono ?_
    rintro e w3 ho
    rw [hl] at ho
    obtain ⟨rfl, hb⟩ : e = .returned (.bool true) ∧ Below _ _ _ := (id ho)
    clear ho
    have HB := Lib.hid (show Below w.heap.size w w3 from HB.out.trans ((show Below _ _ _ from (Below.refl _ _)).trans (hb.mono (by first | omega | (simp <;> omega)))))
    have Ha : Hid (w3.rangeAt (w1.heap.size) 0 [.int .i64 a.x.re, .int .i64 a.x.im, .int .i64 a.x.den, .int .i64 a.y.re, .int .i64 a.y.im, .int .i64 a.y.den]) := rangeAt_below Ha.out hb (by first | omega | (simp; done) | (simp <;> omega))
    have Hb : Hid (w3.rangeAt (w1.heap.size + 1) 0 [.int .i64 b.x.re, .int .i64 b.x.im, .int .i64 b.x.den, .int .i64 b.y.re, .int .i64 b.y.im, .int .i64 b.y.den]) := rangeAt_below Hb.out hb (by first | omega | (simp; done) | (simp <;> omega))
    have hz3 := hb.size
    (try simp at hz3)
    clear hb
    have nA0 : w1.heap.size < w3.heap.size := by omega
    have nB0 : ¬ w1.heap.size = w3.heap.size := by omega
    have nC0 : ¬ w3.heap.size = w1.heap.size := by omega
    have nA1 : w1.heap.size + 1 < w3.heap.size := by omega
    have nB1 : ¬ w1.heap.size + 1 = w3.heap.size := by omega
    have nC1 : ¬ w3.heap.size = w1.heap.size + 1 := by omega
    obtain ⟨x, hx⟩ : ∃ zf, zf = (sOf a).1 := ⟨_, rfl⟩
    obtain ⟨b1, hb1⟩ : ∃ zb, zb = (sOf a).2 := ⟨_, rfl⟩
    have HX2 : Hid (sOf a = (x, b1)) := by show _ = _; rw [hx, hb1]
    have HX2b := Lib.hid hb1
    clear hx hb1
    go_wp2_with (first | ((with_reducible refine wpList_load_mid ?kl91 47 ?kl9x ?kl92 (w1.heap.size) 0 ?kl93 [.int .i64 a.x.re, .int .i64 a.x.im, .int .i64 a.x.den, .int .i64 a.y.re, .int .i64 a.y.im, .int .i64 a.y.den] ?kl9d ?kl94 ?kl95 ?kl96 ?kl97 ?kl98); (case kl92 => rfl); (case kl91 => rfl); (case kl93 => rfl); (case kl94 => (exact Ha.out)); (case kl95 => exact Tryd.underlying47); (case kl96 => rfl); (case kl97 => kernel_rfl)))
    refine (isof_any a _).mono ?_
    rintro e w4 ho
    rw [HX2.out] at ho
    obtain ⟨rfl, hb⟩ : e = .returned (.tuple #[.agg #[.int .i64 x.a.re, .int .i64 x.a.im, .int .i64 x.a.den, .int .i64 x.b.re, .int .i64 x.b.im, .int .i64 x.b.den, .int .i64 x.c.re, .int .i64 x.c.im, .int .i64 x.c.den, .int .i64 x.d.re, .int .i64 x.d.im, .int .i64 x.d.den], .bool b1]) ∧ Below _ _ _ := ho.fn
    clear ho
    have HB := Lib.hid (show Below w.heap.size w w4 from HB.out.trans ((show Below _ _ _ from (Below.refl _ _)).trans (hb.mono (by first | omega | (simp <;> omega)))))
    have Ha : Hid (w4.rangeAt (w1.heap.size) 0 [.int .i64 a.x.re, .int .i64 a.x.im, .int .i64 a.x.den, .int .i64 a.y.re, .int .i64 a.y.im, .int .i64 a.y.den]) := rangeAt_below Ha.out hb (by first | omega | (simp; done) | (simp <;> omega))
    have Hb : Hid (w4.rangeAt (w1.heap.size + 1) 0 [.int .i64 b.x.re, .int .i64 b.x.im, .int .i64 b.x.den, .int .i64 b.y.re, .int .i64 b.y.im, .int .i64 b.y.den]) := rangeAt_below Hb.out hb (by first | omega | (simp; done) | (simp <;> omega))
    have hz4 := hb.size
    (try simp at hz4)
    clear hb
    have nA0 : w1.heap.size < w4.heap.size := by omega
    have nB0 : ¬ w1.heap.size = w4.heap.size := by omega
    have nC0 : ¬ w4.heap.size = w1.heap.size := by omega
    have nA1 : w1.heap.size + 1 < w4.heap.size := by omega
    have nB1 : ¬ w1.heap.size + 1 = w4.heap.size := by omega
    have nC1 : ¬ w4.heap.size = w1.heap.size + 1 := by omega
    obtain ⟨y, hy⟩ : ∃ zf, zf = (sOf b).1 := ⟨_, rfl⟩
    obtain ⟨b2, hb2⟩ : ∃ zb, zb = (sOf b).2 := ⟨_, rfl⟩
    have HY2 : Hid (sOf b = (y, b2)) := by show _ = _; rw [hy, hb2]
    have HY2b := Lib.hid hb2
    clear hy hb2
    go_wp2_with (first | ((with_reducible refine wpList_load_mid ?kl101 47 ?kl10x ?kl102 (w1.heap.size + 1) 0 ?kl103 [.int .i64 b.x.re, .int .i64 b.x.im, .int .i64 b.x.den, .int .i64 b.y.re, .int .i64 b.y.im, .int .i64 b.y.den] ?kl10d ?kl104 ?kl105 ?kl106 ?kl107 ?kl108); (case kl102 => rfl); (case kl101 => rfl); (case kl103 => rfl); (case kl104 => (exact (World.rangeAt_alloc Hb.out _))); (case kl105 => exact Tryd.underlying47); (case kl106 => rfl); (case kl107 => kernel_rfl)))
    refine (isof_any b _).mono ?_
    rintro e w5 ho
    rw [HY2.out] at ho
    obtain ⟨rfl, hb⟩ : e = .returned (.tuple #[.agg #[.int .i64 y.a.re, .int .i64 y.a.im, .int .i64 y.a.den, .int .i64 y.b.re, .int .i64 y.b.im, .int .i64 y.b.den, .int .i64 y.c.re, .int .i64 y.c.im, .int .i64 y.c.den, .int .i64 y.d.re, .int .i64 y.d.im, .int .i64 y.d.den], .bool b2]) ∧ Below _ _ _ := ho.fn
    clear ho
    have HB := Lib.hid (show Below w.heap.size w w5 from HB.out.trans ((show Below _ _ _ from ((Below.refl _ _).alloc (by first | omega | (simp; done) | (simp <;> omega)) _)).trans (hb.mono (by first | omega | (simp <;> omega)))))
    have Ha : Hid (w5.rangeAt (w1.heap.size) 0 [.int .i64 a.x.re, .int .i64 a.x.im, .int .i64 a.x.den, .int .i64 a.y.re, .int .i64 a.y.im, .int .i64 a.y.den]) := rangeAt_below (World.rangeAt_alloc Ha.out _) hb (by first | omega | (simp; done) | (simp <;> omega))
    have Hb : Hid (w5.rangeAt (w1.heap.size + 1) 0 [.int .i64 b.x.re, .int .i64 b.x.im, .int .i64 b.x.den, .int .i64 b.y.re, .int .i64 b.y.im, .int .i64 b.y.den]) := rangeAt_below (World.rangeAt_alloc Hb.out _) hb (by first | omega | (simp; done) | (simp <;> omega))
    have Hx : Hid (w5.rangeAt (w4.heap.size) 0 [.int .i64 x.a.re, .int .i64 x.a.im, .int .i64 x.a.den, .int .i64 x.b.re, .int .i64 x.b.im, .int .i64 x.b.den, .int .i64 x.c.re, .int .i64 x.c.im, .int .i64 x.c.den, .int .i64 x.d.re, .int .i64 x.d.im, .int .i64 x.d.den]) := rangeAt_below (rangeAt_new _ _ _) hb (by first | omega | (simp; done) | (simp <;> omega))
    have hz5 := hb.size
    (try simp at hz5)
    clear hb
    have nA0 : w1.heap.size < w5.heap.size := by omega
    have nB0 : ¬ w1.heap.size = w5.heap.size := by omega
    have nC0 : ¬ w5.heap.size = w1.heap.size := by omega
    have nA1 : w1.heap.size + 1 < w5.heap.size := by omega
    have nB1 : ¬ w1.heap.size + 1 = w5.heap.size := by omega
    have nC1 : ¬ w5.heap.size = w1.heap.size + 1 := by omega
    have nA2 : w4.heap.size < w5.heap.size := by omega
    have nB2 : ¬ w4.heap.size = w5.heap.size := by omega
    have nC2 : ¬ w5.heap.size = w4.heap.size := by omega
    cases b1
    · skip
      obtain ⟨w6, hV⟩ : ∃ V, V = (w5.alloc (.cells #[.int .i64 y.a.re, .int .i64 y.a.im, .int .i64 y.a.den, .int .i64 y.b.re, .int .i64 y.b.im, .int .i64 y.b.den, .int .i64 y.c.re, .int .i64 y.c.im, .int .i64 y.c.den, .int .i64 y.d.re, .int .i64 y.d.im, .int .i64 y.d.den] 51)) := ⟨_, rfl⟩
      have HB : Hid (Below w.heap.size w w6) := by show Below _ _ _; rw [hV]; exact (Below.alloc HB.out (by first | omega | (simp; done) | (simp <;> omega)) _)
      have Ha : Hid (w6.rangeAt (w1.heap.size) 0 [.int .i64 a.x.re, .int .i64 a.x.im, .int .i64 a.x.den, .int .i64 a.y.re, .int .i64 a.y.im, .int .i64 a.y.den]) := by show World.rangeAt _ _ _ _; rw [hV]; exact (World.rangeAt_alloc Ha.out _)
      have Hb : Hid (w6.rangeAt (w1.heap.size + 1) 0 [.int .i64 b.x.re, .int .i64 b.x.im, .int .i64 b.x.den, .int .i64 b.y.re, .int .i64 b.y.im, .int .i64 b.y.den]) := by show World.rangeAt _ _ _ _; rw [hV]; exact (World.rangeAt_alloc Hb.out _)
      have Hx : Hid (w6.rangeAt (w4.heap.size) 0 [.int .i64 x.a.re, .int .i64 x.a.im, .int .i64 x.a.den, .int .i64 x.b.re, .int .i64 x.b.im, .int .i64 x.b.den, .int .i64 x.c.re, .int .i64 x.c.im, .int .i64 x.c.den, .int .i64 x.d.re, .int .i64 x.d.im, .int .i64 x.d.den]) := by show World.rangeAt _ _ _ _; rw [hV]; exact (World.rangeAt_alloc Hx.out _)
      have Hy : Hid (w6.rangeAt (w5.heap.size) 0 [.int .i64 y.a.re, .int .i64 y.a.im, .int .i64 y.a.den, .int .i64 y.b.re, .int .i64 y.b.im, .int .i64 y.b.den, .int .i64 y.c.re, .int .i64 y.c.im, .int .i64 y.c.den, .int .i64 y.d.re, .int .i64 y.d.im, .int .i64 y.d.den]) := by show World.rangeAt _ _ _ _; rw [hV]; exact (rangeAt_new _ _ _)
      have hz6 : w5.heap.size + 1 ≤ w6.heap.size := by rw [hV]; simp
      have nA0 : w1.heap.size < w6.heap.size := by omega
      have nB0 : ¬ w1.heap.size = w6.heap.size := by omega
      have nC0 : ¬ w6.heap.size = w1.heap.size := by omega
      have nA1 : w1.heap.size + 1 < w6.heap.size := by omega
      have nB1 : ¬ w1.heap.size + 1 = w6.heap.size := by omega
      have nC1 : ¬ w6.heap.size = w1.heap.size + 1 := by omega
      have nA2 : w4.heap.size < w6.heap.size := by omega
      have nB2 : ¬ w4.heap.size = w6.heap.size := by omega
      have nC2 : ¬ w6.heap.size = w4.heap.size := by omega
      have nA3 : w5.heap.size < w6.heap.size := by omega
      have nB3 : ¬ w5.heap.size = w6.heap.size := by omega
      have nC3 : ¬ w6.heap.size = w5.heap.size := by omega
      go_wp2_with fail
      rw [← hV]
      clear hV
      go_loopw [11, 12] (fun s i wr => s = .bool true ∧ i = .int .i64 0 ∧ wr = w6) (fun _ _ _ => 0)
      case atStart => exact ⟨rfl, rfl, rfl⟩
      case round =>
        obtain ⟨rfl, rfl, hwr⟩ := hrel
        have hwr := hwr.symm
        subst hwr
        go_wp2_with (first | ((with_reducible refine wpList_load_mid ?kl111 47 ?kl11x ?kl112 (w1.heap.size + 1) 0 ?kl113 [.int .i64 b.x.re, .int .i64 b.x.im, .int .i64 b.x.den, .int .i64 b.y.re, .int .i64 b.y.im, .int .i64 b.y.den] ?kl11d ?kl114 ?kl115 ?kl116 ?kl117 ?kl118); (case kl112 => rfl); (case kl111 => rfl); (case kl113 => rfl); (case kl114 => (exact Hb.out)); (case kl115 => exact Tryd.underlying47); (case kl116 => rfl); (case kl117 => kernel_rfl)) | ((with_reducible refine wpList_load_mid ?kl121 47 ?kl12x ?kl122 (w1.heap.size) 0 ?kl123 [.int .i64 a.x.re, .int .i64 a.x.im, .int .i64 a.x.den, .int .i64 a.y.re, .int .i64 a.y.im, .int .i64 a.y.den] ?kl12d ?kl124 ?kl125 ?kl126 ?kl127 ?kl128); (case kl122 => rfl); (case kl121 => rfl); (case kl123 => rfl); (case kl124 => (exact Ha.out)); (case kl125 => exact Tryd.underlying47); (case kl126 => rfl); (case kl127 => kernel_rfl)))
        refine (ijal_any b a _ (HG_zero.out.below HB.out)).mono ?_
        rintro e w7 ho
        rw [hl2] at ho
        obtain ⟨rfl, hb⟩ : e = .returned (.bool true) ∧ Below _ _ _ := (id ho)
        clear ho
        have HB := Lib.hid (show Below w.heap.size w w7 from HB.out.trans ((show Below _ _ _ from (Below.refl _ _)).trans (hb.mono (by first | omega | (simp <;> omega)))))
        have Ha : Hid (w7.rangeAt (w1.heap.size) 0 [.int .i64 a.x.re, .int .i64 a.x.im, .int .i64 a.x.den, .int .i64 a.y.re, .int .i64 a.y.im, .int .i64 a.y.den]) := rangeAt_below Ha.out hb (by first | omega | (simp; done) | (simp <;> omega))
        have Hb : Hid (w7.rangeAt (w1.heap.size + 1) 0 [.int .i64 b.x.re, .int .i64 b.x.im, .int .i64 b.x.den, .int .i64 b.y.re, .int .i64 b.y.im, .int .i64 b.y.den]) := rangeAt_below Hb.out hb (by first | omega | (simp; done) | (simp <;> omega))
        have Hx : Hid (w7.rangeAt (w4.heap.size) 0 [.int .i64 x.a.re, .int .i64 x.a.im, .int .i64 x.a.den, .int .i64 x.b.re, .int .i64 x.b.im, .int .i64 x.b.den, .int .i64 x.c.re, .int .i64 x.c.im, .int .i64 x.c.den, .int .i64 x.d.re, .int .i64 x.d.im, .int .i64 x.d.den]) := rangeAt_below Hx.out hb (by first | omega | (simp; done) | (simp <;> omega))
        have Hy : Hid (w7.rangeAt (w5.heap.size) 0 [.int .i64 y.a.re, .int .i64 y.a.im, .int .i64 y.a.den, .int .i64 y.b.re, .int .i64 y.b.im, .int .i64 y.b.den, .int .i64 y.c.re, .int .i64 y.c.im, .int .i64 y.c.den, .int .i64 y.d.re, .int .i64 y.d.im, .int .i64 y.d.den]) := rangeAt_below Hy.out hb (by first | omega | (simp; done) | (simp <;> omega))
        have hz7 := hb.size
        (try simp at hz7)
        clear hb
        have nA0 : w1.heap.size < w7.heap.size := by omega
        have nB0 : ¬ w1.heap.size = w7.heap.size := by omega
        have nC0 : ¬ w7.heap.size = w1.heap.size := by omega
        have nA1 : w1.heap.size + 1 < w7.heap.size := by omega
        have nB1 : ¬ w1.heap.size + 1 = w7.heap.size := by omega
        have nC1 : ¬ w7.heap.size = w1.heap.size + 1 := by omega
        have nA2 : w4.heap.size < w7.heap.size := by omega
        have nB2 : ¬ w4.heap.size = w7.heap.size := by omega
        have nC2 : ¬ w7.heap.size = w4.heap.size := by omega
        have nA3 : w5.heap.size < w7.heap.size := by omega
        have nB3 : ¬ w5.heap.size = w7.heap.size := by omega
        have nC3 : ¬ w7.heap.size = w5.heap.size := by omega
        go_wp2_with fail
        go_ret
        exact ⟨rfl, (by (repeat' first | (with_reducible exact HB.out) | with_reducible refine setCells_below _ _ _ ?_ (by first | omega | (simp <;> omega)) | with_reducible refine Below.setCell ?_ (by show _ ≤ _; first | omega | (simp <;> omega) | simp) _ | with_reducible refine Below.alloc ?_ (by first | omega | (simp <;> omega)) _ | with_reducible apply Below.drew | with_reducible refine below_drewN ?_ _))⟩
    cases b2
    · skip
      obtain ⟨w6, hV⟩ : ∃ V, V = (w5.alloc (.cells #[.int .i64 y.a.re, .int .i64 y.a.im, .int .i64 y.a.den, .int .i64 y.b.re, .int .i64 y.b.im, .int .i64 y.b.den, .int .i64 y.c.re, .int .i64 y.c.im, .int .i64 y.c.den, .int .i64 y.d.re, .int .i64 y.d.im, .int .i64 y.d.den] 51)) := ⟨_, rfl⟩
      have HB : Hid (Below w.heap.size w w6) := by show Below _ _ _; rw [hV]; exact (Below.alloc HB.out (by first | omega | (simp; done) | (simp <;> omega)) _)
      have Ha : Hid (w6.rangeAt (w1.heap.size) 0 [.int .i64 a.x.re, .int .i64 a.x.im, .int .i64 a.x.den, .int .i64 a.y.re, .int .i64 a.y.im, .int .i64 a.y.den]) := by show World.rangeAt _ _ _ _; rw [hV]; exact (World.rangeAt_alloc Ha.out _)
      have Hb : Hid (w6.rangeAt (w1.heap.size + 1) 0 [.int .i64 b.x.re, .int .i64 b.x.im, .int .i64 b.x.den, .int .i64 b.y.re, .int .i64 b.y.im, .int .i64 b.y.den]) := by show World.rangeAt _ _ _ _; rw [hV]; exact (World.rangeAt_alloc Hb.out _)
      have Hx : Hid (w6.rangeAt (w4.heap.size) 0 [.int .i64 x.a.re, .int .i64 x.a.im, .int .i64 x.a.den, .int .i64 x.b.re, .int .i64 x.b.im, .int .i64 x.b.den, .int .i64 x.c.re, .int .i64 x.c.im, .int .i64 x.c.den, .int .i64 x.d.re, .int .i64 x.d.im, .int .i64 x.d.den]) := by show World.rangeAt _ _ _ _; rw [hV]; exact (World.rangeAt_alloc Hx.out _)
      have Hy : Hid (w6.rangeAt (w5.heap.size) 0 [.int .i64 y.a.re, .int .i64 y.a.im, .int .i64 y.a.den, .int .i64 y.b.re, .int .i64 y.b.im, .int .i64 y.b.den, .int .i64 y.c.re, .int .i64 y.c.im, .int .i64 y.c.den, .int .i64 y.d.re, .int .i64 y.d.im, .int .i64 y.d.den]) := by show World.rangeAt _ _ _ _; rw [hV]; exact (rangeAt_new _ _ _)
      have hz6 : w5.heap.size + 1 ≤ w6.heap.size := by rw [hV]; simp
      have nA0 : w1.heap.size < w6.heap.size := by omega
      have nB0 : ¬ w1.heap.size = w6.heap.size := by omega
      have nC0 : ¬ w6.heap.size = w1.heap.size := by omega
      have nA1 : w1.heap.size + 1 < w6.heap.size := by omega
      have nB1 : ¬ w1.heap.size + 1 = w6.heap.size := by omega
      have nC1 : ¬ w6.heap.size = w1.heap.size + 1 := by omega
      have nA2 : w4.heap.size < w6.heap.size := by omega
      have nB2 : ¬ w4.heap.size = w6.heap.size := by omega
      have nC2 : ¬ w6.heap.size = w4.heap.size := by omega
      have nA3 : w5.heap.size < w6.heap.size := by omega
      have nB3 : ¬ w5.heap.size = w6.heap.size := by omega
      have nC3 : ¬ w6.heap.size = w5.heap.size := by omega
      go_wp2_with fail
      rw [← hV]
      clear hV
      go_loopw [11, 12] (fun s i wr => s = .bool true ∧ i = .int .i64 0 ∧ wr = w6) (fun _ _ _ => 0)
      case atStart => exact ⟨rfl, rfl, rfl⟩
      case round =>
        obtain ⟨rfl, rfl, hwr⟩ := hrel
        have hwr := hwr.symm
        subst hwr
        go_wp2_with (first | ((with_reducible refine wpList_load_mid ?kl131 47 ?kl13x ?kl132 (w1.heap.size + 1) 0 ?kl133 [.int .i64 b.x.re, .int .i64 b.x.im, .int .i64 b.x.den, .int .i64 b.y.re, .int .i64 b.y.im, .int .i64 b.y.den] ?kl13d ?kl134 ?kl135 ?kl136 ?kl137 ?kl138); (case kl132 => rfl); (case kl131 => rfl); (case kl133 => rfl); (case kl134 => (exact Hb.out)); (case kl135 => exact Tryd.underlying47); (case kl136 => rfl); (case kl137 => kernel_rfl)) | ((with_reducible refine wpList_load_mid ?kl141 47 ?kl14x ?kl142 (w1.heap.size) 0 ?kl143 [.int .i64 a.x.re, .int .i64 a.x.im, .int .i64 a.x.den, .int .i64 a.y.re, .int .i64 a.y.im, .int .i64 a.y.den] ?kl14d ?kl144 ?kl145 ?kl146 ?kl147 ?kl148); (case kl142 => rfl); (case kl141 => rfl); (case kl143 => rfl); (case kl144 => (exact Ha.out)); (case kl145 => exact Tryd.underlying47); (case kl146 => rfl); (case kl147 => kernel_rfl)))
        refine (ijal_any b a _ (HG_zero.out.below HB.out)).mono ?_
        rintro e w7 ho
        rw [hl2] at ho
        obtain ⟨rfl, hb⟩ : e = .returned (.bool true) ∧ Below _ _ _ := (id ho)
        clear ho
        have HB := Lib.hid (show Below w.heap.size w w7 from HB.out.trans ((show Below _ _ _ from (Below.refl _ _)).trans (hb.mono (by first | omega | (simp <;> omega)))))
        have Ha : Hid (w7.rangeAt (w1.heap.size) 0 [.int .i64 a.x.re, .int .i64 a.x.im, .int .i64 a.x.den, .int .i64 a.y.re, .int .i64 a.y.im, .int .i64 a.y.den]) := rangeAt_below Ha.out hb (by first | omega | (simp; done) | (simp <;> omega))
        have Hb : Hid (w7.rangeAt (w1.heap.size + 1) 0 [.int .i64 b.x.re, .int .i64 b.x.im, .int .i64 b.x.den, .int .i64 b.y.re, .int .i64 b.y.im, .int .i64 b.y.den]) := rangeAt_below Hb.out hb (by first | omega | (simp; done) | (simp <;> omega))
        have Hx : Hid (w7.rangeAt (w4.heap.size) 0 [.int .i64 x.a.re, .int .i64 x.a.im, .int .i64 x.a.den, .int .i64 x.b.re, .int .i64 x.b.im, .int .i64 x.b.den, .int .i64 x.c.re, .int .i64 x.c.im, .int .i64 x.c.den, .int .i64 x.d.re, .int .i64 x.d.im, .int .i64 x.d.den]) := rangeAt_below Hx.out hb (by first | omega | (simp; done) | (simp <;> omega))
        have Hy : Hid (w7.rangeAt (w5.heap.size) 0 [.int .i64 y.a.re, .int .i64 y.a.im, .int .i64 y.a.den, .int .i64 y.b.re, .int .i64 y.b.im, .int .i64 y.b.den, .int .i64 y.c.re, .int .i64 y.c.im, .int .i64 y.c.den, .int .i64 y.d.re, .int .i64 y.d.im, .int .i64 y.d.den]) := rangeAt_below Hy.out hb (by first | omega | (simp; done) | (simp <;> omega))
        have hz7 := hb.size
        (try simp at hz7)
        clear hb
        have nA0 : w1.heap.size < w7.heap.size := by omega
        have nB0 : ¬ w1.heap.size = w7.heap.size := by omega
        have nC0 : ¬ w7.heap.size = w1.heap.size := by omega
        have nA1 : w1.heap.size + 1 < w7.heap.size := by omega
        have nB1 : ¬ w1.heap.size + 1 = w7.heap.size := by omega
        have nC1 : ¬ w7.heap.size = w1.heap.size + 1 := by omega
        have nA2 : w4.heap.size < w7.heap.size := by omega
        have nB2 : ¬ w4.heap.size = w7.heap.size := by omega
        have nC2 : ¬ w7.heap.size = w4.heap.size := by omega
        have nA3 : w5.heap.size < w7.heap.size := by omega
        have nB3 : ¬ w5.heap.size = w7.heap.size := by omega
        have nC3 : ¬ w7.heap.size = w5.heap.size := by omega
        go_wp2_with fail
        go_ret
        exact ⟨rfl, (by (repeat' first | (with_reducible exact HB.out) | with_reducible refine setCells_below _ _ _ ?_ (by first | omega | (simp <;> omega)) | with_reducible refine Below.setCell ?_ (by show _ ≤ _; first | omega | (simp <;> omega) | simp) _ | with_reducible refine Below.alloc ?_ (by first | omega | (simp <;> omega)) _ | with_reducible apply Below.drew | with_reducible refine below_drewN ?_ _))⟩
    have HAL := Lib.hid (fun s1 s2 => law_jalike hl HX2.out HY2.out s1 s2)
    obtain ⟨w6, hV⟩ : ∃ V, V = (w5.alloc (.cells #[.int .i64 y.a.re, .int .i64 y.a.im, .int .i64 y.a.den, .int .i64 y.b.re, .int .i64 y.b.im, .int .i64 y.b.den, .int .i64 y.c.re, .int .i64 y.c.im, .int .i64 y.c.den, .int .i64 y.d.re, .int .i64 y.d.im, .int .i64 y.d.den] 51)) := ⟨_, rfl⟩
    have HB : Hid (Below w.heap.size w w6) := by show Below _ _ _; rw [hV]; exact (Below.alloc HB.out (by first | omega | (simp; done) | (simp <;> omega)) _)
    have Ha : Hid (w6.rangeAt (w1.heap.size) 0 [.int .i64 a.x.re, .int .i64 a.x.im, .int .i64 a.x.den, .int .i64 a.y.re, .int .i64 a.y.im, .int .i64 a.y.den]) := by show World.rangeAt _ _ _ _; rw [hV]; exact (World.rangeAt_alloc Ha.out _)
    have Hb : Hid (w6.rangeAt (w1.heap.size + 1) 0 [.int .i64 b.x.re, .int .i64 b.x.im, .int .i64 b.x.den, .int .i64 b.y.re, .int .i64 b.y.im, .int .i64 b.y.den]) := by show World.rangeAt _ _ _ _; rw [hV]; exact (World.rangeAt_alloc Hb.out _)
    have Hx : Hid (w6.rangeAt (w4.heap.size) 0 [.int .i64 x.a.re, .int .i64 x.a.im, .int .i64 x.a.den, .int .i64 x.b.re, .int .i64 x.b.im, .int .i64 x.b.den, .int .i64 x.c.re, .int .i64 x.c.im, .int .i64 x.c.den, .int .i64 x.d.re, .int .i64 x.d.im, .int .i64 x.d.den]) := by show World.rangeAt _ _ _ _; rw [hV]; exact (World.rangeAt_alloc Hx.out _)
    have Hy : Hid (w6.rangeAt (w5.heap.size) 0 [.int .i64 y.a.re, .int .i64 y.a.im, .int .i64 y.a.den, .int .i64 y.b.re, .int .i64 y.b.im, .int .i64 y.b.den, .int .i64 y.c.re, .int .i64 y.c.im, .int .i64 y.c.den, .int .i64 y.d.re, .int .i64 y.d.im, .int .i64 y.d.den]) := by show World.rangeAt _ _ _ _; rw [hV]; exact (rangeAt_new _ _ _)
    have hz6 : w5.heap.size + 1 ≤ w6.heap.size := by rw [hV]; simp
    have nA0 : w1.heap.size < w6.heap.size := by omega
    have nB0 : ¬ w1.heap.size = w6.heap.size := by omega
    have nC0 : ¬ w6.heap.size = w1.heap.size := by omega
    have nA1 : w1.heap.size + 1 < w6.heap.size := by omega
    have nB1 : ¬ w1.heap.size + 1 = w6.heap.size := by omega
    have nC1 : ¬ w6.heap.size = w1.heap.size + 1 := by omega
    have nA2 : w4.heap.size < w6.heap.size := by omega
    have nB2 : ¬ w4.heap.size = w6.heap.size := by omega
    have nC2 : ¬ w6.heap.size = w4.heap.size := by omega
    have nA3 : w5.heap.size < w6.heap.size := by omega
    have nB3 : ¬ w5.heap.size = w6.heap.size := by omega
    have nC3 : ¬ w6.heap.size = w5.heap.size := by omega
    go_wp2_with fail
    rw [← hV]
    clear hV
    go_loopw [11, 12] (fun s i wr => ∃ k : Nat, i = .int .i64 k ∧ k ≤ 4 ∧ s = .bool (smB x y k) ∧ wr = w6) (fun _ i _ => (4 - intOf i).toNat)
    case atStart => exact ⟨0, rfl, by omega, rfl, rfl⟩
    case round =>
      obtain ⟨k, rfl, hk, rfl, hwr⟩ := hrel
      have hwr := hwr.symm
      subst hwr
      by_cases h4 : k < 4
      · obtain ⟨c0, c1, c2⟩ := sbox_of4 (m := x) Hx.out k h4
        obtain ⟨d0, d1, d2⟩ := sbox_of4 (m := y) Hy.out k h4
        have i0 : (0 : Int) ≤ (k : Int) := by omega
        have i1 : (k : Int) < 4 := by omega
        clear c1 d1
        cases hs : smB x y k
        · have HS : Hid (smB x y (k + 1) = false) := smB_no hs
          go_wp2
          go_roundw
          case rel => exact ⟨k + 1, by go_num, by omega, by rw [HS.out], by first | rfl | trivial⟩
          case measure => simp [intOf]; omega
        · skip
          by_cases t1 : (x.get k).re < 10000
          case neg =>
            have HS : Hid (smB x y (k + 1) = false) := smB_bad (fun ⟨x1, x2, x3, x4, x5, x6⟩ => t1 x1)
            go_wp2
            go_roundw
            case rel => exact ⟨k + 1, by go_num, by omega, by rw [HS.out], by first | rfl | trivial⟩
            case measure => simp [intOf]; omega
          by_cases t2 : (-10000 : Int) < (x.get k).re
          case neg =>
            have HS : Hid (smB x y (k + 1) = false) := smB_bad (fun ⟨x1, x2, x3, x4, x5, x6⟩ => t2 x2)
            go_wp2
            go_roundw
            case rel => exact ⟨k + 1, by go_num, by omega, by rw [HS.out], by first | rfl | trivial⟩
            case measure => simp [intOf]; omega
          by_cases t3 : (y.get k).re < 10000
          case neg =>
            have HS : Hid (smB x y (k + 1) = false) := smB_bad (fun ⟨x1, x2, x3, x4, x5, x6⟩ => t3 x3)
            go_wp2
            go_roundw
            case rel => exact ⟨k + 1, by go_num, by omega, by rw [HS.out], by first | rfl | trivial⟩
            case measure => simp [intOf]; omega
          by_cases t4 : (-10000 : Int) < (y.get k).re
          case neg =>
            have HS : Hid (smB x y (k + 1) = false) := smB_bad (fun ⟨x1, x2, x3, x4, x5, x6⟩ => t4 x4)
            go_wp2
            go_roundw
            case rel => exact ⟨k + 1, by go_num, by omega, by rw [HS.out], by first | rfl | trivial⟩
            case measure => simp [intOf]; omega
          by_cases t5 : (x.get k).den < 10000
          case neg =>
            have HS : Hid (smB x y (k + 1) = false) := smB_bad (fun ⟨x1, x2, x3, x4, x5, x6⟩ => t5 x5)
            go_wp2
            go_roundw
            case rel => exact ⟨k + 1, by go_num, by omega, by rw [HS.out], by first | rfl | trivial⟩
            case measure => simp [intOf]; omega
          by_cases t6 : (y.get k).den < 10000
          case neg =>
            have HS : Hid (smB x y (k + 1) = false) := smB_bad (fun ⟨x1, x2, x3, x4, x5, x6⟩ => t6 x6)
            go_wp2
            go_roundw
            case rel => exact ⟨k + 1, by go_num, by omega, by rw [HS.out], by first | rfl | trivial⟩
            case measure => simp [intOf]; omega
          have HS : Hid (smB x y (k + 1) = true) := smB_yes hs ⟨t1, t2, t3, t4, t5, t6⟩
          go_wp2
          go_roundw
          case rel => exact ⟨k + 1, by go_num, by omega, by rw [HS.out], by first | rfl | trivial⟩
          case measure => simp [intOf]; omega
      obtain rfl : k = 4 := by omega
      clear h4 hk
      cases hs : smB x y 4
      · skip
        go_wp2_with (first | ((with_reducible refine wpList_load_mid ?kl151 47 ?kl15x ?kl152 (w1.heap.size + 1) 0 ?kl153 [.int .i64 b.x.re, .int .i64 b.x.im, .int .i64 b.x.den, .int .i64 b.y.re, .int .i64 b.y.im, .int .i64 b.y.den] ?kl15d ?kl154 ?kl155 ?kl156 ?kl157 ?kl158); (case kl152 => rfl); (case kl151 => rfl); (case kl153 => rfl); (case kl154 => (exact Hb.out)); (case kl155 => exact Tryd.underlying47); (case kl156 => rfl); (case kl157 => kernel_rfl)) | ((with_reducible refine wpList_load_mid ?kl161 47 ?kl16x ?kl162 (w1.heap.size) 0 ?kl163 [.int .i64 a.x.re, .int .i64 a.x.im, .int .i64 a.x.den, .int .i64 a.y.re, .int .i64 a.y.im, .int .i64 a.y.den] ?kl16d ?kl164 ?kl165 ?kl166 ?kl167 ?kl168); (case kl162 => rfl); (case kl161 => rfl); (case kl163 => rfl); (case kl164 => (exact Ha.out)); (case kl165 => exact Tryd.underlying47); (case kl166 => rfl); (case kl167 => kernel_rfl)))
        refine (ijal_any b a _ (HG_zero.out.below HB.out)).mono ?_
        rintro e w7 ho
        rw [hl2] at ho
        obtain ⟨rfl, hb⟩ : e = .returned (.bool true) ∧ Below _ _ _ := (id ho)
        clear ho
        have HB := Lib.hid (show Below w.heap.size w w7 from HB.out.trans ((show Below _ _ _ from (Below.refl _ _)).trans (hb.mono (by first | omega | (simp <;> omega)))))
        have Ha : Hid (w7.rangeAt (w1.heap.size) 0 [.int .i64 a.x.re, .int .i64 a.x.im, .int .i64 a.x.den, .int .i64 a.y.re, .int .i64 a.y.im, .int .i64 a.y.den]) := rangeAt_below Ha.out hb (by first | omega | (simp; done) | (simp <;> omega))
        have Hb : Hid (w7.rangeAt (w1.heap.size + 1) 0 [.int .i64 b.x.re, .int .i64 b.x.im, .int .i64 b.x.den, .int .i64 b.y.re, .int .i64 b.y.im, .int .i64 b.y.den]) := rangeAt_below Hb.out hb (by first | omega | (simp; done) | (simp <;> omega))
        have Hx : Hid (w7.rangeAt (w4.heap.size) 0 [.int .i64 x.a.re, .int .i64 x.a.im, .int .i64 x.a.den, .int .i64 x.b.re, .int .i64 x.b.im, .int .i64 x.b.den, .int .i64 x.c.re, .int .i64 x.c.im, .int .i64 x.c.den, .int .i64 x.d.re, .int .i64 x.d.im, .int .i64 x.d.den]) := rangeAt_below Hx.out hb (by first | omega | (simp; done) | (simp <;> omega))
        have Hy : Hid (w7.rangeAt (w5.heap.size) 0 [.int .i64 y.a.re, .int .i64 y.a.im, .int .i64 y.a.den, .int .i64 y.b.re, .int .i64 y.b.im, .int .i64 y.b.den, .int .i64 y.c.re, .int .i64 y.c.im, .int .i64 y.c.den, .int .i64 y.d.re, .int .i64 y.d.im, .int .i64 y.d.den]) := rangeAt_below Hy.out hb (by first | omega | (simp; done) | (simp <;> omega))
        have hz7 := hb.size
        (try simp at hz7)
        clear hb
        have nA0 : w1.heap.size < w7.heap.size := by omega
        have nB0 : ¬ w1.heap.size = w7.heap.size := by omega
        have nC0 : ¬ w7.heap.size = w1.heap.size := by omega
        have nA1 : w1.heap.size + 1 < w7.heap.size := by omega
        have nB1 : ¬ w1.heap.size + 1 = w7.heap.size := by omega
        have nC1 : ¬ w7.heap.size = w1.heap.size + 1 := by omega
        have nA2 : w4.heap.size < w7.heap.size := by omega
        have nB2 : ¬ w4.heap.size = w7.heap.size := by omega
        have nC2 : ¬ w7.heap.size = w4.heap.size := by omega
        have nA3 : w5.heap.size < w7.heap.size := by omega
        have nB3 : ¬ w5.heap.size = w7.heap.size := by omega
        have nC3 : ¬ w7.heap.size = w5.heap.size := by omega
        go_wp2_with fail
        go_ret
        exact ⟨rfl, (by (repeat' first | (with_reducible exact HB.out) | with_reducible refine setCells_below _ _ _ ?_ (by first | omega | (simp <;> omega)) | with_reducible refine Below.setCell ?_ (by show _ ≤ _; first | omega | (simp <;> omega) | simp) _ | with_reducible refine Below.alloc ?_ (by first | omega | (simp <;> omega)) _ | with_reducible apply Below.drew | with_reducible refine below_drewN ?_ _))⟩
      have hal := HAL.out (fun k hk => (smB_all hs k hk).1) (fun k hk => (smB_all hs k hk).2)
      clear hs
      go_wp2_with (first | ((with_reducible refine wpList_load_mid ?kl171 47 ?kl17x ?kl172 (w1.heap.size + 1) 0 ?kl173 [.int .i64 b.x.re, .int .i64 b.x.im, .int .i64 b.x.den, .int .i64 b.y.re, .int .i64 b.y.im, .int .i64 b.y.den] ?kl17d ?kl174 ?kl175 ?kl176 ?kl177 ?kl178); (case kl172 => rfl); (case kl171 => rfl); (case kl173 => rfl); (case kl174 => (exact Hb.out)); (case kl175 => exact Tryd.underlying47); (case kl176 => rfl); (case kl177 => kernel_rfl)) | ((with_reducible refine wpList_load_mid ?kl181 47 ?kl18x ?kl182 (w1.heap.size) 0 ?kl183 [.int .i64 a.x.re, .int .i64 a.x.im, .int .i64 a.x.den, .int .i64 a.y.re, .int .i64 a.y.im, .int .i64 a.y.den] ?kl18d ?kl184 ?kl185 ?kl186 ?kl187 ?kl188); (case kl182 => rfl); (case kl181 => rfl); (case kl183 => rfl); (case kl184 => (exact Ha.out)); (case kl185 => exact Tryd.underlying47); (case kl186 => rfl); (case kl187 => kernel_rfl)))
      refine (ijal_any b a _ (HG_zero.out.below HB.out)).mono ?_
      rintro e w7 ho
      rw [hl2] at ho
      obtain ⟨rfl, hb⟩ : e = .returned (.bool true) ∧ Below _ _ _ := (id ho)
      clear ho
      have HB := Lib.hid (show Below w.heap.size w w7 from HB.out.trans ((show Below _ _ _ from (Below.refl _ _)).trans (hb.mono (by first | omega | (simp <;> omega)))))
      have Ha : Hid (w7.rangeAt (w1.heap.size) 0 [.int .i64 a.x.re, .int .i64 a.x.im, .int .i64 a.x.den, .int .i64 a.y.re, .int .i64 a.y.im, .int .i64 a.y.den]) := rangeAt_below Ha.out hb (by first | omega | (simp; done) | (simp <;> omega))
      have Hb : Hid (w7.rangeAt (w1.heap.size + 1) 0 [.int .i64 b.x.re, .int .i64 b.x.im, .int .i64 b.x.den, .int .i64 b.y.re, .int .i64 b.y.im, .int .i64 b.y.den]) := rangeAt_below Hb.out hb (by first | omega | (simp; done) | (simp <;> omega))
      have Hx : Hid (w7.rangeAt (w4.heap.size) 0 [.int .i64 x.a.re, .int .i64 x.a.im, .int .i64 x.a.den, .int .i64 x.b.re, .int .i64 x.b.im, .int .i64 x.b.den, .int .i64 x.c.re, .int .i64 x.c.im, .int .i64 x.c.den, .int .i64 x.d.re, .int .i64 x.d.im, .int .i64 x.d.den]) := rangeAt_below Hx.out hb (by first | omega | (simp; done) | (simp <;> omega))
      have Hy : Hid (w7.rangeAt (w5.heap.size) 0 [.int .i64 y.a.re, .int .i64 y.a.im, .int .i64 y.a.den, .int .i64 y.b.re, .int .i64 y.b.im, .int .i64 y.b.den, .int .i64 y.c.re, .int .i64 y.c.im, .int .i64 y.c.den, .int .i64 y.d.re, .int .i64 y.d.im, .int .i64 y.d.den]) := rangeAt_below Hy.out hb (by first | omega | (simp; done) | (simp <;> omega))
      have hz7 := hb.size
      (try simp at hz7)
      clear hb
      have nA0 : w1.heap.size < w7.heap.size := by omega
      have nB0 : ¬ w1.heap.size = w7.heap.size := by omega
      have nC0 : ¬ w7.heap.size = w1.heap.size := by omega
      have nA1 : w1.heap.size + 1 < w7.heap.size := by omega
      have nB1 : ¬ w1.heap.size + 1 = w7.heap.size := by omega
      have nC1 : ¬ w7.heap.size = w1.heap.size + 1 := by omega
      have nA2 : w4.heap.size < w7.heap.size := by omega
      have nB2 : ¬ w4.heap.size = w7.heap.size := by omega
      have nC2 : ¬ w7.heap.size = w4.heap.size := by omega
      have nA3 : w5.heap.size < w7.heap.size := by omega
      have nB3 : ¬ w5.heap.size = w7.heap.size := by omega
      have nC3 : ¬ w7.heap.size = w5.heap.size := by omega
      have zx_0 : w7.cell? ⟨w4.heap.size, 0, none⟩ = some (.int .i64 x.a.re) := by have := Hx.out 0 _ rfl; rwa [Nat.zero_add] at this
      have zx_1 : w7.cell? ⟨w4.heap.size, 1, none⟩ = some (.int .i64 x.a.im) := by have := Hx.out 1 _ rfl; rwa [Nat.zero_add] at this
      have zx_2 : w7.cell? ⟨w4.heap.size, 2, none⟩ = some (.int .i64 x.a.den) := by have := Hx.out 2 _ rfl; rwa [Nat.zero_add] at this
      have zx_3 : w7.cell? ⟨w4.heap.size, 3, none⟩ = some (.int .i64 x.b.re) := by have := Hx.out 3 _ rfl; rwa [Nat.zero_add] at this
      have zx_4 : w7.cell? ⟨w4.heap.size, 4, none⟩ = some (.int .i64 x.b.im) := by have := Hx.out 4 _ rfl; rwa [Nat.zero_add] at this
      have zx_5 : w7.cell? ⟨w4.heap.size, 5, none⟩ = some (.int .i64 x.b.den) := by have := Hx.out 5 _ rfl; rwa [Nat.zero_add] at this
      have zx_6 : w7.cell? ⟨w4.heap.size, 6, none⟩ = some (.int .i64 x.c.re) := by have := Hx.out 6 _ rfl; rwa [Nat.zero_add] at this
      have zx_7 : w7.cell? ⟨w4.heap.size, 7, none⟩ = some (.int .i64 x.c.im) := by have := Hx.out 7 _ rfl; rwa [Nat.zero_add] at this
      have zx_8 : w7.cell? ⟨w4.heap.size, 8, none⟩ = some (.int .i64 x.c.den) := by have := Hx.out 8 _ rfl; rwa [Nat.zero_add] at this
      have zx_9 : w7.cell? ⟨w4.heap.size, 9, none⟩ = some (.int .i64 x.d.re) := by have := Hx.out 9 _ rfl; rwa [Nat.zero_add] at this
      have zx_10 : w7.cell? ⟨w4.heap.size, 10, none⟩ = some (.int .i64 x.d.im) := by have := Hx.out 10 _ rfl; rwa [Nat.zero_add] at this
      have zx_11 : w7.cell? ⟨w4.heap.size, 11, none⟩ = some (.int .i64 x.d.den) := by have := Hx.out 11 _ rfl; rwa [Nat.zero_add] at this
      have zy_0 : w7.cell? ⟨w5.heap.size, 0, none⟩ = some (.int .i64 y.a.re) := by have := Hy.out 0 _ rfl; rwa [Nat.zero_add] at this
      have zy_1 : w7.cell? ⟨w5.heap.size, 1, none⟩ = some (.int .i64 y.a.im) := by have := Hy.out 1 _ rfl; rwa [Nat.zero_add] at this
      have zy_2 : w7.cell? ⟨w5.heap.size, 2, none⟩ = some (.int .i64 y.a.den) := by have := Hy.out 2 _ rfl; rwa [Nat.zero_add] at this
      have zy_3 : w7.cell? ⟨w5.heap.size, 3, none⟩ = some (.int .i64 y.b.re) := by have := Hy.out 3 _ rfl; rwa [Nat.zero_add] at this
      have zy_4 : w7.cell? ⟨w5.heap.size, 4, none⟩ = some (.int .i64 y.b.im) := by have := Hy.out 4 _ rfl; rwa [Nat.zero_add] at this
      have zy_5 : w7.cell? ⟨w5.heap.size, 5, none⟩ = some (.int .i64 y.b.den) := by have := Hy.out 5 _ rfl; rwa [Nat.zero_add] at this
      have zy_6 : w7.cell? ⟨w5.heap.size, 6, none⟩ = some (.int .i64 y.c.re) := by have := Hy.out 6 _ rfl; rwa [Nat.zero_add] at this
      have zy_7 : w7.cell? ⟨w5.heap.size, 7, none⟩ = some (.int .i64 y.c.im) := by have := Hy.out 7 _ rfl; rwa [Nat.zero_add] at this
      have zy_8 : w7.cell? ⟨w5.heap.size, 8, none⟩ = some (.int .i64 y.c.den) := by have := Hy.out 8 _ rfl; rwa [Nat.zero_add] at this
      have zy_9 : w7.cell? ⟨w5.heap.size, 9, none⟩ = some (.int .i64 y.d.re) := by have := Hy.out 9 _ rfl; rwa [Nat.zero_add] at this
      have zy_10 : w7.cell? ⟨w5.heap.size, 10, none⟩ = some (.int .i64 y.d.im) := by have := Hy.out 10 _ rfl; rwa [Nat.zero_add] at this
      have zy_11 : w7.cell? ⟨w5.heap.size, 11, none⟩ = some (.int .i64 y.d.den) := by have := Hy.out 11 _ rfl; rwa [Nat.zero_add] at this
      go_wp2_with fail
      refine (isal_any x y _).mono ?_
      rintro e w8 ho
      rw [hal] at ho
      obtain ⟨rfl, hb⟩ : e = .returned (.bool true) ∧ Below _ _ _ := (id ho)
      clear ho
      have HB := Lib.hid (show Below w.heap.size w w8 from HB.out.trans ((show Below _ _ _ from (Below.refl _ _)).trans (hb.mono (by first | omega | (simp <;> omega)))))
      have Ha : Hid (w8.rangeAt (w1.heap.size) 0 [.int .i64 a.x.re, .int .i64 a.x.im, .int .i64 a.x.den, .int .i64 a.y.re, .int .i64 a.y.im, .int .i64 a.y.den]) := rangeAt_below Ha.out hb (by first | omega | (simp; done) | (simp <;> omega))
      have Hb : Hid (w8.rangeAt (w1.heap.size + 1) 0 [.int .i64 b.x.re, .int .i64 b.x.im, .int .i64 b.x.den, .int .i64 b.y.re, .int .i64 b.y.im, .int .i64 b.y.den]) := rangeAt_below Hb.out hb (by first | omega | (simp; done) | (simp <;> omega))
      have Hx : Hid (w8.rangeAt (w4.heap.size) 0 [.int .i64 x.a.re, .int .i64 x.a.im, .int .i64 x.a.den, .int .i64 x.b.re, .int .i64 x.b.im, .int .i64 x.b.den, .int .i64 x.c.re, .int .i64 x.c.im, .int .i64 x.c.den, .int .i64 x.d.re, .int .i64 x.d.im, .int .i64 x.d.den]) := rangeAt_below Hx.out hb (by first | omega | (simp; done) | (simp <;> omega))
      have Hy : Hid (w8.rangeAt (w5.heap.size) 0 [.int .i64 y.a.re, .int .i64 y.a.im, .int .i64 y.a.den, .int .i64 y.b.re, .int .i64 y.b.im, .int .i64 y.b.den, .int .i64 y.c.re, .int .i64 y.c.im, .int .i64 y.c.den, .int .i64 y.d.re, .int .i64 y.d.im, .int .i64 y.d.den]) := rangeAt_below Hy.out hb (by first | omega | (simp; done) | (simp <;> omega))
      have hz8 := hb.size
      (try simp at hz8)
      clear hb
      have nA0 : w1.heap.size < w8.heap.size := by omega
      have nB0 : ¬ w1.heap.size = w8.heap.size := by omega
      have nC0 : ¬ w8.heap.size = w1.heap.size := by omega
      have nA1 : w1.heap.size + 1 < w8.heap.size := by omega
      have nB1 : ¬ w1.heap.size + 1 = w8.heap.size := by omega
      have nC1 : ¬ w8.heap.size = w1.heap.size + 1 := by omega
      have nA2 : w4.heap.size < w8.heap.size := by omega
      have nB2 : ¬ w4.heap.size = w8.heap.size := by omega
      have nC2 : ¬ w8.heap.size = w4.heap.size := by omega
      have nA3 : w5.heap.size < w8.heap.size := by omega
      have nB3 : ¬ w5.heap.size = w8.heap.size := by omega
      have nC3 : ¬ w8.heap.size = w5.heap.size := by omega
      go_wp2_with fail
      go_ret
      exact ⟨rfl, (by (repeat' first | (with_reducible exact HB.out) | with_reducible refine setCells_below _ _ _ ?_ (by first | omega | (simp <;> omega)) | with_reducible refine Below.setCell ?_ (by show _ ≤ _; first | omega | (simp <;> omega) | simp) _ | with_reducible refine Below.alloc ?_ (by first | omega | (simp <;> omega)) _ | with_reducible apply Below.drew | with_reducible refine below_drewN ?_ _))⟩
set_option maxRecDepth 100000 in
theorem door_FnJonesAlike (os : Os) (args : Array Value) : laidMetH Tryd.prog Rows.fnJonesAlikeRow.laid ((World.doorLaid Tryd.prog 43 os).forCall (fun _ _ => 0) ⟨#[], args, []⟩).memory :=
  laidMetH_of_parts3 (fuel := 8) (laidMet_of_run' 8 (by kernel_rfl) (by kernel_rfl)) (by kernel_rfl) (by kernel_rfl)
set_option maxRecDepth 100000 in
theorem lifted_FnJonesAlike (os : Os) (started : os.Started) (H : Type) (enc : TypeId × Value → H) :
    ReturnsInHanded {} Tryd.checked os 8 .any (fun w args => (Rows.fnJonesAlikeSpec.pre enc Tryd.prog Tryd.f8 [] false w args ∧ laidMetH Tryd.prog Rows.fnJonesAlikeRow.laid w) ∧ sizedMet enc Tryd.prog Tryd.f8 (OpenSpec.ofChange Rows.fnJonesAlikeSpec) false w args) (Rows.fnJonesAlikeSpec.post enc Tryd.prog Tryd.f8 false true false false) := by
  refine returnsInHanded_of_change_and (C := Tryd.checked) (X := fun w _ => laidMetH Tryd.prog Rows.fnJonesAlikeRow.laid w) (fun _ _ _ hh h => h.of_heap hh) Tryd.own started (by kernel_rfl) Tryd.func8
    (ChangeSpec.witness_shaped (enc := enc) (C := Tryd.checked) (os := os) (X := fun w _ => laidMetH Tryd.prog Rows.fnJonesAlikeRow.laid w) false (World.doorLaid Tryd.prog 43 os) #[.slice none 0 0] 8 rfl (World.shaped_of_RefB (by kernel_rfl) (by kernel_rfl)) (by kernel_rfl) (by kernel_rfl) (by kernel_rfl) (door_FnJonesAlike os _)) ?_
  intro W base args ds gs before hval0 hW _ _ hL _
  have hval : ∀ (j : Nat) t v, Tryd.f8.params[j]? = some t → args[j]? = some v → Value.okWide Tryd.prog W .any base t v := hval0
  have hW' := hW
  obtain ⟨p, q, hA0, hV, rfl, hfz, hnd⟩ := hW
  have hA : DataW.TrodAll enc Tryd.prog W 0 (fun _ => true) true Tryd.f8.params.toList args.toList ds p := hA0
  rw [Tryd.params8] at hA hval
  obtain ⟨v0, d0, rfl, rfl, h0⟩ := trodAll_one hA
  obtain ⟨g0, rfl⟩ := len1 (vars_len hV)
  have hG_zero := gat_zero hL (by decide) (by simp [Rows.fnJonesAlikeRow, Rows.laid_loop_example_polarisedlight_impl_zero])
  have h0k := h0
  obtain ⟨fuel, hf⟩ := h0
  clear hA0 hval0
  have hlt : ∀ x ∈ p, x.block < W.heap.size := fun x hx => by simpa using hW'.lt x (List.mem_append_left _ hx)
  obtain ⟨a0, len, cap, rfl⟩ := okWide_slice Tryd.underlying55 (hval 0 55 v0 rfl rfl)
  obtain ⟨hcap, HC⟩ := open_code hf hlt
  refine (walk_FnJonesAlike a0 len cap W hcap HC hG_zero).mono fun e W' ⟨he, hb⟩ => ?_
  subst he
  refine ⟨_, rfl, _, _, _, [], p, q, hW', trodAll_mk1 (shut_bool Tryd.underlying4 _), trodAll_mk1 (Below.trod Tryd.laidOut (by kernel_rfl) (of_decide_eq_true (by kernel_rfl)) h0k hb (fun x hx => hlt x (by simp [hx]))), Below.trodVars Tryd.laidOut hb (by kernel_rfl) hV, hb.frame _, fun h => by cases h⟩
theorem said_FnJonesAlike : Rows.FnJonesAlikeSaid :=
  OpenClaim.holds_of_wide 8 Tryd.f8 rfl rfl rfl rfl rfl rfl rfl ⟨rfl, rfl, rfl, rfl, rfl⟩ rfl rfl rfl rfl rfl (by kernel_rfl) Tryd.func8 (by kernel_rfl)
    (of_decide_eq_true (by kernel_rfl)) (by unfold Func.isWrapper; first | (rw [if_pos (by decide +kernel)]; kernel_rfl) | (rw [if_neg (by decide +kernel)]; exact ⟨rfl, rfl⟩))
    (fun os started H enc _ => lifted_FnJonesAlike os started H enc)
set_option maxRecDepth 100000 in
/-- THE STATEMENT: THE CARD. -/
theorem holds_FnJonesAlike : Rows.FnJonesAlikeCardSaid :=
  Claim7.holds_tied_plain_at .later [] [.data] true (true, "4641a63997bae2f3f605d4183781842987cd6e93f60671f0fe7f4fb0ecf64798") false
    said_FnJonesAlike (fun _ h => by cases h) (by kernel_rfl) (fun _ h => by cases h) fnJonesAlike_row_tie rfl ⟨rfl, rfl⟩ (by kernel_rfl) rfl
    (fun f fn hf hfn => by
      obtain rfl : f = 8 := Option.some.inj ((show Tryd.prog.funcNamed "loop.example/polarisedlight/laws.FnJonesAlike" = some 8 by kernel_rfl).symm.trans hf) |>.symm
      obtain rfl : fn = Tryd.f8 := (Option.some.inj (Tryd.func8.symm.trans hfn)).symm
      exact ⟨by kernel_rfl, fun j t ht => by
        rw [Tryd.params8] at ht
        have hm : t ∈ [55] := by simpa using Array.mem_of_getElem? ht
        have hall : ([55].all fun u => !Tryd.prog.wantsStandIn u) = true := by kernel_rfl
        exact (show Tryd.prog.wantsStandIn t = false by simpa using List.all_eq_true.1 hall t hm)⟩)
    (by kernel_rfl)
end Go.Proofs.YtmcokdiopcpifaaDoor
