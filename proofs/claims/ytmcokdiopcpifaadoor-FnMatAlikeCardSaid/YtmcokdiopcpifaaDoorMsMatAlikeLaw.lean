/- Alike matrices do alike things. The row lists package-level variables, and the card ties them to the text of the program: the pruned copy of the project that the seat holds. -/
import Derived.Test.YtmcokdiopcpifaaDoorMsG18
import Derived.Test.YtmcokdiopcpifaaDoorMsSMI
import Derived.Test.YtmcokdiopcpifaaDoorMsSJI
import Derived.Test.YtmcokdiopcpifaaDoorMsG28
import Derived.Test.YtmcokdiopcpifaaDoorMsDAM
import Derived.Test.YtmcokdiopcpifaaDoorTie
import Derived.Test.YtmcokdiopcpifaaDoorCards
import Derived.SevenTiedAt
set_option maxRecDepth 100000
namespace Go.Proofs.YtmcokdiopcpifaaDoor
open Go.ChangeShapes Go.WideShapes Go.ChangeAt Go.RowKit Pol
set_option maxRecDepth 100000 in
set_option maxHeartbeats 40000000 in
theorem walk_FnMatAlike (a0 : Option Addr) (len cap : Nat) (w : World) (hcap : len ≤ cap) (HC : Code w.heap.size w a0 len) (hg_zero : Gat w 1 (ixF f0) 1) :
    Calls Tryd.prog 14 #[.slice a0 len cap] w fun e w' => e = .returned (.bool true) ∧ Below w.heap.size w w' := by
  by_cases hbig : 1048576 < len
  · have h1 : (1048576 : Int) < (len : Int) := by omega
    go_enter Tryd.func14, Tryd.ntmps14
    go_wp2
    go_ret
    exact ⟨rfl, Below.refl _ _⟩
  have h1 : ¬ (1048576 : Int) < (len : Int) := by omega
  have HB : Hid (Below w.heap.size w w) := Below.refl _ _
  have HG_zero := Lib.hid hg_zero; clear hg_zero
  go_enter Tryd.func14, Tryd.ntmps14
  go_wp2_with fail
  refine (DrawMatAlike_any a0 len cap _ hcap HC).mono ?_
  rintro e w1 ⟨a, b, rfl, hb⟩
  have HB := Lib.hid (show Below w.heap.size w w1 from HB.out.trans ((show Below _ _ _ from (Below.refl _ _)).trans (hb.mono (by first | omega | (simp <;> omega)))))
  have hz1 := hb.size
  (try simp at hz1)
  clear hb
  cases hl : gMAl a b
  · skip
    go_wp2_with (first | ((with_reducible refine wpList_load_mid ?kl11 41 ?kl1x ?kl12 (w1.heap.size) 0 ?kl13 [.int .i64 a.a.re, .int .i64 a.a.im, .int .i64 a.a.den, .int .i64 a.b.re, .int .i64 a.b.im, .int .i64 a.b.den, .int .i64 a.c.re, .int .i64 a.c.im, .int .i64 a.c.den, .int .i64 a.d.re, .int .i64 a.d.im, .int .i64 a.d.den] ?kl1d ?kl14 ?kl15 ?kl16 ?kl17 ?kl18); (case kl12 => rfl); (case kl11 => rfl); (case kl13 => rfl); (case kl14 => (exact (World.rangeAt_alloc (rangeAt_new _ _ _) _))); (case kl15 => exact Tryd.underlying41); (case kl16 => rfl); (case kl17 => kernel_rfl)) | ((with_reducible refine wpList_load_mid ?kl21 41 ?kl2x ?kl22 (w1.heap.size + 1) 0 ?kl23 [.int .i64 b.a.re, .int .i64 b.a.im, .int .i64 b.a.den, .int .i64 b.b.re, .int .i64 b.b.im, .int .i64 b.b.den, .int .i64 b.c.re, .int .i64 b.c.im, .int .i64 b.c.den, .int .i64 b.d.re, .int .i64 b.d.im, .int .i64 b.d.den] ?kl2d ?kl24 ?kl25 ?kl26 ?kl27 ?kl28); (case kl22 => rfl); (case kl21 => rfl); (case kl23 => rfl); (case kl24 => (exact (rangeAt_nw (by simp)))); (case kl25 => exact Tryd.underlying41); (case kl26 => rfl); (case kl27 => kernel_rfl)))
    refine (imal_any a b _ (HG_zero.out.below (Below.alloc (Below.alloc HB.out (by first | omega | (simp; done) | (simp <;> omega)) _) (by first | omega | (simp; done) | (simp <;> omega)) _))).mono ?_
    rintro e w2 ho
    rw [hl] at ho
    obtain ⟨rfl, hb⟩ : e = .returned (.bool false) ∧ Below _ _ _ := (id ho)
    clear ho
    have HB := Lib.hid (show Below w.heap.size w w2 from HB.out.trans ((show Below _ _ _ from (((Below.refl _ _).alloc (by first | omega | (simp; done) | (simp <;> omega)) _).alloc (by first | omega | (simp; done) | (simp <;> omega)) _)).trans (hb.mono (by first | omega | (simp <;> omega)))))
    have Ha : Hid (w2.rangeAt (w1.heap.size) 0 [.int .i64 a.a.re, .int .i64 a.a.im, .int .i64 a.a.den, .int .i64 a.b.re, .int .i64 a.b.im, .int .i64 a.b.den, .int .i64 a.c.re, .int .i64 a.c.im, .int .i64 a.c.den, .int .i64 a.d.re, .int .i64 a.d.im, .int .i64 a.d.den]) := rangeAt_below (World.rangeAt_alloc (rangeAt_new _ _ _) _) hb (by first | omega | (simp; done) | (simp <;> omega))
    have Hb : Hid (w2.rangeAt (w1.heap.size + 1) 0 [.int .i64 b.a.re, .int .i64 b.a.im, .int .i64 b.a.den, .int .i64 b.b.re, .int .i64 b.b.im, .int .i64 b.b.den, .int .i64 b.c.re, .int .i64 b.c.im, .int .i64 b.c.den, .int .i64 b.d.re, .int .i64 b.d.im, .int .i64 b.d.den]) := rangeAt_below (rangeAt_nw (by simp)) hb (by first | omega | (simp; done) | (simp <;> omega))
    have hz2 := hb.size
    (try simp at hz2)
    clear hb
    have nA0 : w1.heap.size < w2.heap.size := by omega
    have nB0 : ¬ w1.heap.size = w2.heap.size := by omega
    have nC0 : ¬ w2.heap.size = w1.heap.size := by omega
    have nA1 : w1.heap.size + 1 < w2.heap.size := by omega
    have nB1 : ¬ w1.heap.size + 1 = w2.heap.size := by omega
    have nC1 : ¬ w2.heap.size = w1.heap.size + 1 := by omega
    go_wp2_with (first | ((with_reducible refine wpList_load_mid ?kl31 41 ?kl3x ?kl32 (w1.heap.size) 0 ?kl33 [.int .i64 a.a.re, .int .i64 a.a.im, .int .i64 a.a.den, .int .i64 a.b.re, .int .i64 a.b.im, .int .i64 a.b.den, .int .i64 a.c.re, .int .i64 a.c.im, .int .i64 a.c.den, .int .i64 a.d.re, .int .i64 a.d.im, .int .i64 a.d.den] ?kl3d ?kl34 ?kl35 ?kl36 ?kl37 ?kl38); (case kl32 => rfl); (case kl31 => rfl); (case kl33 => rfl); (case kl34 => (exact Ha.out)); (case kl35 => exact Tryd.underlying41); (case kl36 => rfl); (case kl37 => kernel_rfl)) | ((with_reducible refine wpList_load_mid ?kl41 41 ?kl4x ?kl42 (w1.heap.size + 1) 0 ?kl43 [.int .i64 b.a.re, .int .i64 b.a.im, .int .i64 b.a.den, .int .i64 b.b.re, .int .i64 b.b.im, .int .i64 b.b.den, .int .i64 b.c.re, .int .i64 b.c.im, .int .i64 b.c.den, .int .i64 b.d.re, .int .i64 b.d.im, .int .i64 b.d.den] ?kl4d ?kl44 ?kl45 ?kl46 ?kl47 ?kl48); (case kl42 => rfl); (case kl41 => rfl); (case kl43 => rfl); (case kl44 => (exact Hb.out)); (case kl45 => exact Tryd.underlying41); (case kl46 => rfl); (case kl47 => kernel_rfl)))
    refine (smal_any a b _).mono ?_
    rintro e w3 ho
    rw [hl] at ho
    obtain ⟨rfl, hb⟩ : e = .returned (.bool false) ∧ Below _ _ _ := (id ho)
    clear ho
    have HB := Lib.hid (show Below w.heap.size w w3 from HB.out.trans ((show Below _ _ _ from (Below.refl _ _)).trans (hb.mono (by first | omega | (simp <;> omega)))))
    have Ha : Hid (w3.rangeAt (w1.heap.size) 0 [.int .i64 a.a.re, .int .i64 a.a.im, .int .i64 a.a.den, .int .i64 a.b.re, .int .i64 a.b.im, .int .i64 a.b.den, .int .i64 a.c.re, .int .i64 a.c.im, .int .i64 a.c.den, .int .i64 a.d.re, .int .i64 a.d.im, .int .i64 a.d.den]) := rangeAt_below Ha.out hb (by first | omega | (simp; done) | (simp <;> omega))
    have Hb : Hid (w3.rangeAt (w1.heap.size + 1) 0 [.int .i64 b.a.re, .int .i64 b.a.im, .int .i64 b.a.den, .int .i64 b.b.re, .int .i64 b.b.im, .int .i64 b.b.den, .int .i64 b.c.re, .int .i64 b.c.im, .int .i64 b.c.den, .int .i64 b.d.re, .int .i64 b.d.im, .int .i64 b.d.den]) := rangeAt_below Hb.out hb (by first | omega | (simp; done) | (simp <;> omega))
    have hz3 := hb.size
    (try simp at hz3)
    clear hb
    have nA0 : w1.heap.size < w3.heap.size := by omega
    have nB0 : ¬ w1.heap.size = w3.heap.size := by omega
    have nC0 : ¬ w3.heap.size = w1.heap.size := by omega
    have nA1 : w1.heap.size + 1 < w3.heap.size := by omega
    have nB1 : ¬ w1.heap.size + 1 = w3.heap.size := by omega
    have nC1 : ¬ w3.heap.size = w1.heap.size + 1 := by omega
    go_wp2_with fail
    go_ret
    exact ⟨rfl, (by (repeat' first | (with_reducible exact HB.out) | with_reducible refine setCells_below _ _ _ ?_ (by first | omega | (simp <;> omega)) | with_reducible refine Below.setCell ?_ (by show _ ≤ _; first | omega | (simp <;> omega) | simp) _ | with_reducible refine Below.alloc ?_ (by first | omega | (simp <;> omega)) _ | with_reducible apply Below.drew | with_reducible refine below_drewN ?_ _))⟩
  · skip
    have hl2 : gMAl b a = true := by rw [gMAl_comm]; exact hl
    obtain ⟨hva, hvb⟩ := gMAl_vld hl
    have HA1 := Lib.hid (mAp_e1 hva)
    have HA2 := Lib.hid (mAp_e1 hvb)
    have HLM := Lib.hid (fun p q => law_malike hl p q)
    clear hva hvb
    go_wp2_with (first | ((with_reducible refine wpList_load_mid ?kl51 41 ?kl5x ?kl52 (w1.heap.size) 0 ?kl53 [.int .i64 a.a.re, .int .i64 a.a.im, .int .i64 a.a.den, .int .i64 a.b.re, .int .i64 a.b.im, .int .i64 a.b.den, .int .i64 a.c.re, .int .i64 a.c.im, .int .i64 a.c.den, .int .i64 a.d.re, .int .i64 a.d.im, .int .i64 a.d.den] ?kl5d ?kl54 ?kl55 ?kl56 ?kl57 ?kl58); (case kl52 => rfl); (case kl51 => rfl); (case kl53 => rfl); (case kl54 => (exact (World.rangeAt_alloc (rangeAt_new _ _ _) _))); (case kl55 => exact Tryd.underlying41); (case kl56 => rfl); (case kl57 => kernel_rfl)) | ((with_reducible refine wpList_load_mid ?kl61 41 ?kl6x ?kl62 (w1.heap.size + 1) 0 ?kl63 [.int .i64 b.a.re, .int .i64 b.a.im, .int .i64 b.a.den, .int .i64 b.b.re, .int .i64 b.b.im, .int .i64 b.b.den, .int .i64 b.c.re, .int .i64 b.c.im, .int .i64 b.c.den, .int .i64 b.d.re, .int .i64 b.d.im, .int .i64 b.d.den] ?kl6d ?kl64 ?kl65 ?kl66 ?kl67 ?kl68); (case kl62 => rfl); (case kl61 => rfl); (case kl63 => rfl); (case kl64 => (exact (rangeAt_nw (by simp)))); (case kl65 => exact Tryd.underlying41); (case kl66 => rfl); (case kl67 => kernel_rfl)))
    refine (imal_any a b _ (HG_zero.out.below (Below.alloc (Below.alloc HB.out (by first | omega | (simp; done) | (simp <;> omega)) _) (by first | omega | (simp; done) | (simp <;> omega)) _))).mono ?_
    rintro e w2 ho
    rw [hl] at ho
    obtain ⟨rfl, hb⟩ : e = .returned (.bool true) ∧ Below _ _ _ := (id ho)
    clear ho
    have HB := Lib.hid (show Below w.heap.size w w2 from HB.out.trans ((show Below _ _ _ from (((Below.refl _ _).alloc (by first | omega | (simp; done) | (simp <;> omega)) _).alloc (by first | omega | (simp; done) | (simp <;> omega)) _)).trans (hb.mono (by first | omega | (simp <;> omega)))))
    have Ha : Hid (w2.rangeAt (w1.heap.size) 0 [.int .i64 a.a.re, .int .i64 a.a.im, .int .i64 a.a.den, .int .i64 a.b.re, .int .i64 a.b.im, .int .i64 a.b.den, .int .i64 a.c.re, .int .i64 a.c.im, .int .i64 a.c.den, .int .i64 a.d.re, .int .i64 a.d.im, .int .i64 a.d.den]) := rangeAt_below (World.rangeAt_alloc (rangeAt_new _ _ _) _) hb (by first | omega | (simp; done) | (simp <;> omega))
    have Hb : Hid (w2.rangeAt (w1.heap.size + 1) 0 [.int .i64 b.a.re, .int .i64 b.a.im, .int .i64 b.a.den, .int .i64 b.b.re, .int .i64 b.b.im, .int .i64 b.b.den, .int .i64 b.c.re, .int .i64 b.c.im, .int .i64 b.c.den, .int .i64 b.d.re, .int .i64 b.d.im, .int .i64 b.d.den]) := rangeAt_below (rangeAt_nw (by simp)) hb (by first | omega | (simp; done) | (simp <;> omega))
    have hz2 := hb.size
    (try simp at hz2)
    clear hb
    have nA0 : w1.heap.size < w2.heap.size := by omega
    have nB0 : ¬ w1.heap.size = w2.heap.size := by omega
    have nC0 : ¬ w2.heap.size = w1.heap.size := by omega
    have nA1 : w1.heap.size + 1 < w2.heap.size := by omega
    have nB1 : ¬ w1.heap.size + 1 = w2.heap.size := by omega
    have nC1 : ¬ w2.heap.size = w1.heap.size + 1 := by omega
    go_wp2_with (first | ((with_reducible refine wpList_load_mid ?kl71 41 ?kl7x ?kl72 (w1.heap.size) 0 ?kl73 [.int .i64 a.a.re, .int .i64 a.a.im, .int .i64 a.a.den, .int .i64 a.b.re, .int .i64 a.b.im, .int .i64 a.b.den, .int .i64 a.c.re, .int .i64 a.c.im, .int .i64 a.c.den, .int .i64 a.d.re, .int .i64 a.d.im, .int .i64 a.d.den] ?kl7d ?kl74 ?kl75 ?kl76 ?kl77 ?kl78); (case kl72 => rfl); (case kl71 => rfl); (case kl73 => rfl); (case kl74 => (exact Ha.out)); (case kl75 => exact Tryd.underlying41); (case kl76 => rfl); (case kl77 => kernel_rfl)) | ((with_reducible refine wpList_load_mid ?kl81 41 ?kl8x ?kl82 (w1.heap.size + 1) 0 ?kl83 [.int .i64 b.a.re, .int .i64 b.a.im, .int .i64 b.a.den, .int .i64 b.b.re, .int .i64 b.b.im, .int .i64 b.b.den, .int .i64 b.c.re, .int .i64 b.c.im, .int .i64 b.c.den, .int .i64 b.d.re, .int .i64 b.d.im, .int .i64 b.d.den] ?kl8d ?kl84 ?kl85 ?kl86 ?kl87 ?kl88); (case kl82 => rfl); (case kl81 => rfl); (case kl83 => rfl); (case kl84 => (exact Hb.out)); (case kl85 => exact Tryd.underlying41); (case kl86 => rfl); (case kl87 => kernel_rfl)))
    refine (smal_any a b _).mono ?_
    rintro e w3 ho
    rw [hl] at ho
    obtain ⟨rfl, hb⟩ : e = .returned (.bool true) ∧ Below _ _ _ := (id ho)
    clear ho
    have HB := Lib.hid (show Below w.heap.size w w3 from HB.out.trans ((show Below _ _ _ from (Below.refl _ _)).trans (hb.mono (by first | omega | (simp <;> omega)))))
    have Ha : Hid (w3.rangeAt (w1.heap.size) 0 [.int .i64 a.a.re, .int .i64 a.a.im, .int .i64 a.a.den, .int .i64 a.b.re, .int .i64 a.b.im, .int .i64 a.b.den, .int .i64 a.c.re, .int .i64 a.c.im, .int .i64 a.c.den, .int .i64 a.d.re, .int .i64 a.d.im, .int .i64 a.d.den]) := rangeAt_below Ha.out hb (by first | omega | (simp; done) | (simp <;> omega))
    have Hb : Hid (w3.rangeAt (w1.heap.size + 1) 0 [.int .i64 b.a.re, .int .i64 b.a.im, .int .i64 b.a.den, .int .i64 b.b.re, .int .i64 b.b.im, .int .i64 b.b.den, .int .i64 b.c.re, .int .i64 b.c.im, .int .i64 b.c.den, .int .i64 b.d.re, .int .i64 b.d.im, .int .i64 b.d.den]) := rangeAt_below Hb.out hb (by first | omega | (simp; done) | (simp <;> omega))
    have hz3 := hb.size
    (try simp at hz3)
    clear hb
    have nA0 : w1.heap.size < w3.heap.size := by omega
    have nB0 : ¬ w1.heap.size = w3.heap.size := by omega
    have nC0 : ¬ w3.heap.size = w1.heap.size := by omega
    have nA1 : w1.heap.size + 1 < w3.heap.size := by omega
    have nB1 : ¬ w1.heap.size + 1 = w3.heap.size := by omega
    have nC1 : ¬ w3.heap.size = w1.heap.size + 1 := by omega
    go_wp2_with (first | ((with_reducible refine wpList_load_mid ?kl91 41 ?kl9x ?kl92 (w1.heap.size) 0 ?kl93 [.int .i64 a.a.re, .int .i64 a.a.im, .int .i64 a.a.den, .int .i64 a.b.re, .int .i64 a.b.im, .int .i64 a.b.den, .int .i64 a.c.re, .int .i64 a.c.im, .int .i64 a.c.den, .int .i64 a.d.re, .int .i64 a.d.im, .int .i64 a.d.den] ?kl9d ?kl94 ?kl95 ?kl96 ?kl97 ?kl98); (case kl92 => rfl); (case kl91 => rfl); (case kl93 => rfl); (case kl94 => (exact (World.rangeAt_alloc Ha.out _))); (case kl95 => exact Tryd.underlying41); (case kl96 => rfl); (case kl97 => kernel_rfl)) | ((with_reducible refine wpList_load_mid ?kl101 47 ?kl10x ?kl102 (w3.heap.size) 0 ?kl103 [.int .i64 1, .int .i64 0, .int .i64 1, .int .i64 0, .int .i64 0, .int .i64 1] ?kl10d ?kl104 ?kl105 ?kl106 ?kl107 ?kl108); (case kl102 => rfl); (case kl101 => rfl); (case kl103 => rfl); (case kl104 => (exact (rangeAt_new _ _ _))); (case kl105 => exact Tryd.underlying47); (case kl106 => rfl); (case kl107 => kernel_rfl)))
    refine (imap_m a e1v _).mono ?_
    rintro e w4 ho
    rw [HA1.out] at ho
    obtain ⟨rfl, hb⟩ : e = .returned (.tuple #[.agg #[.int .i64 a.a.re, .int .i64 a.a.im, .int .i64 a.a.den, .int .i64 a.c.re, .int .i64 a.c.im, .int .i64 a.c.den], .bool true]) ∧ Below _ _ _ := ho.fn
    clear ho
    have HB := Lib.hid (show Below w.heap.size w w4 from HB.out.trans ((show Below _ _ _ from ((Below.refl _ _).alloc (by first | omega | (simp; done) | (simp <;> omega)) _)).trans (hb.mono (by first | omega | (simp <;> omega)))))
    have Ha : Hid (w4.rangeAt (w1.heap.size) 0 [.int .i64 a.a.re, .int .i64 a.a.im, .int .i64 a.a.den, .int .i64 a.b.re, .int .i64 a.b.im, .int .i64 a.b.den, .int .i64 a.c.re, .int .i64 a.c.im, .int .i64 a.c.den, .int .i64 a.d.re, .int .i64 a.d.im, .int .i64 a.d.den]) := rangeAt_below (World.rangeAt_alloc Ha.out _) hb (by first | omega | (simp; done) | (simp <;> omega))
    have Hb : Hid (w4.rangeAt (w1.heap.size + 1) 0 [.int .i64 b.a.re, .int .i64 b.a.im, .int .i64 b.a.den, .int .i64 b.b.re, .int .i64 b.b.im, .int .i64 b.b.den, .int .i64 b.c.re, .int .i64 b.c.im, .int .i64 b.c.den, .int .i64 b.d.re, .int .i64 b.d.im, .int .i64 b.d.den]) := rangeAt_below (World.rangeAt_alloc Hb.out _) hb (by first | omega | (simp; done) | (simp <;> omega))
    have Hv : Hid (w4.rangeAt (w3.heap.size) 0 [.int .i64 1, .int .i64 0, .int .i64 1, .int .i64 0, .int .i64 0, .int .i64 1]) := rangeAt_below (rangeAt_new _ _ _) hb (by first | omega | (simp; done) | (simp <;> omega))
    have hz4 := hb.size
    (try simp at hz4)
    clear hb
    have nA0 : w1.heap.size < w4.heap.size := by omega
    have nB0 : ¬ w1.heap.size = w4.heap.size := by omega
    have nC0 : ¬ w4.heap.size = w1.heap.size := by omega
    have nA1 : w1.heap.size + 1 < w4.heap.size := by omega
    have nB1 : ¬ w1.heap.size + 1 = w4.heap.size := by omega
    have nC1 : ¬ w4.heap.size = w1.heap.size + 1 := by omega
    have nA2 : w3.heap.size < w4.heap.size := by omega
    have nB2 : ¬ w3.heap.size = w4.heap.size := by omega
    have nC2 : ¬ w4.heap.size = w3.heap.size := by omega
    go_wp2_with (first | ((with_reducible refine wpList_load_mid ?kl111 41 ?kl11x ?kl112 (w1.heap.size + 1) 0 ?kl113 [.int .i64 b.a.re, .int .i64 b.a.im, .int .i64 b.a.den, .int .i64 b.b.re, .int .i64 b.b.im, .int .i64 b.b.den, .int .i64 b.c.re, .int .i64 b.c.im, .int .i64 b.c.den, .int .i64 b.d.re, .int .i64 b.d.im, .int .i64 b.d.den] ?kl11d ?kl114 ?kl115 ?kl116 ?kl117 ?kl118); (case kl112 => rfl); (case kl111 => rfl); (case kl113 => rfl); (case kl114 => (exact (World.rangeAt_alloc Hb.out _))); (case kl115 => exact Tryd.underlying41); (case kl116 => rfl); (case kl117 => kernel_rfl)) | ((with_reducible refine wpList_load_mid ?kl121 47 ?kl12x ?kl122 (w3.heap.size) 0 ?kl123 [.int .i64 1, .int .i64 0, .int .i64 1, .int .i64 0, .int .i64 0, .int .i64 1] ?kl12d ?kl124 ?kl125 ?kl126 ?kl127 ?kl128); (case kl122 => rfl); (case kl121 => rfl); (case kl123 => rfl); (case kl124 => (exact (World.rangeAt_alloc Hv.out _))); (case kl125 => exact Tryd.underlying47); (case kl126 => rfl); (case kl127 => kernel_rfl)))
    refine (imap_m b e1v _).mono ?_
    rintro e w5 ho
    rw [HA2.out] at ho
    obtain ⟨rfl, hb⟩ : e = .returned (.tuple #[.agg #[.int .i64 b.a.re, .int .i64 b.a.im, .int .i64 b.a.den, .int .i64 b.c.re, .int .i64 b.c.im, .int .i64 b.c.den], .bool true]) ∧ Below _ _ _ := ho.fn
    clear ho
    have HB := Lib.hid (show Below w.heap.size w w5 from HB.out.trans ((show Below _ _ _ from ((Below.refl _ _).alloc (by first | omega | (simp; done) | (simp <;> omega)) _)).trans (hb.mono (by first | omega | (simp <;> omega)))))
    have Ha : Hid (w5.rangeAt (w1.heap.size) 0 [.int .i64 a.a.re, .int .i64 a.a.im, .int .i64 a.a.den, .int .i64 a.b.re, .int .i64 a.b.im, .int .i64 a.b.den, .int .i64 a.c.re, .int .i64 a.c.im, .int .i64 a.c.den, .int .i64 a.d.re, .int .i64 a.d.im, .int .i64 a.d.den]) := rangeAt_below (World.rangeAt_alloc Ha.out _) hb (by first | omega | (simp; done) | (simp <;> omega))
    have Hb : Hid (w5.rangeAt (w1.heap.size + 1) 0 [.int .i64 b.a.re, .int .i64 b.a.im, .int .i64 b.a.den, .int .i64 b.b.re, .int .i64 b.b.im, .int .i64 b.b.den, .int .i64 b.c.re, .int .i64 b.c.im, .int .i64 b.c.den, .int .i64 b.d.re, .int .i64 b.d.im, .int .i64 b.d.den]) := rangeAt_below (World.rangeAt_alloc Hb.out _) hb (by first | omega | (simp; done) | (simp <;> omega))
    have Hv : Hid (w5.rangeAt (w3.heap.size) 0 [.int .i64 1, .int .i64 0, .int .i64 1, .int .i64 0, .int .i64 0, .int .i64 1]) := rangeAt_below (World.rangeAt_alloc Hv.out _) hb (by first | omega | (simp; done) | (simp <;> omega))
    have Hx : Hid (w5.rangeAt (w4.heap.size) 0 [.int .i64 a.a.re, .int .i64 a.a.im, .int .i64 a.a.den, .int .i64 a.c.re, .int .i64 a.c.im, .int .i64 a.c.den]) := rangeAt_below (rangeAt_new _ _ _) hb (by first | omega | (simp; done) | (simp <;> omega))
    have hz5 := hb.size
    (try simp at hz5)
    clear hb
    have nA0 : w1.heap.size < w5.heap.size := by omega
    have nB0 : ¬ w1.heap.size = w5.heap.size := by omega
    have nC0 : ¬ w5.heap.size = w1.heap.size := by omega
    have nA1 : w1.heap.size + 1 < w5.heap.size := by omega
    have nB1 : ¬ w1.heap.size + 1 = w5.heap.size := by omega
    have nC1 : ¬ w5.heap.size = w1.heap.size + 1 := by omega
    have nA2 : w3.heap.size < w5.heap.size := by omega
    have nB2 : ¬ w3.heap.size = w5.heap.size := by omega
    have nC2 : ¬ w5.heap.size = w3.heap.size := by omega
    have nA3 : w4.heap.size < w5.heap.size := by omega
    have nB3 : ¬ w4.heap.size = w5.heap.size := by omega
    have nC3 : ¬ w5.heap.size = w4.heap.size := by omega
    have zx_0 : w5.cell? ⟨w4.heap.size, 0, none⟩ = some (.int .i64 a.a.re) := by have := Hx.out 0 _ rfl; rwa [Nat.zero_add] at this
    have zx_1 : w5.cell? ⟨w4.heap.size, 1, none⟩ = some (.int .i64 a.a.im) := by have := Hx.out 1 _ rfl; rwa [Nat.zero_add] at this
    have zx_2 : w5.cell? ⟨w4.heap.size, 2, none⟩ = some (.int .i64 a.a.den) := by have := Hx.out 2 _ rfl; rwa [Nat.zero_add] at this
    have zx_3 : w5.cell? ⟨w4.heap.size, 3, none⟩ = some (.int .i64 a.c.re) := by have := Hx.out 3 _ rfl; rwa [Nat.zero_add] at this
    have zx_4 : w5.cell? ⟨w4.heap.size, 4, none⟩ = some (.int .i64 a.c.im) := by have := Hx.out 4 _ rfl; rwa [Nat.zero_add] at this
    have zx_5 : w5.cell? ⟨w4.heap.size, 5, none⟩ = some (.int .i64 a.c.den) := by have := Hx.out 5 _ rfl; rwa [Nat.zero_add] at this
    obtain ⟨t1, ht1⟩ : ∃ zf, zf = (fTimes a.a b.c).1 := ⟨_, rfl⟩
    obtain ⟨b1, hb1⟩ : ∃ zb, zb = (fTimes a.a b.c).2 := ⟨_, rfl⟩
    have HT1 : Hid (fTimes a.a b.c = (t1, b1)) := by show _ = _; rw [ht1, hb1]
    have HT1b := Lib.hid hb1
    clear ht1 hb1
    go_wp2_with fail
    refine (times_fr a.a b.c _).mono ?_
    rintro e w6 ho
    rw [HT1.out] at ho
    obtain ⟨rfl, hb⟩ : e = .returned (.tuple #[.agg #[.int .i64 t1.re, .int .i64 t1.im, .int .i64 t1.den], .bool b1]) ∧ Below _ _ _ := ho.fn
    clear ho
    have HB := Lib.hid (show Below w.heap.size w w6 from HB.out.trans ((show Below _ _ _ from ((Below.refl _ _).alloc (by first | omega | (simp; done) | (simp <;> omega)) _)).trans (hb.mono (by first | omega | (simp <;> omega)))))
    have Ha : Hid (w6.rangeAt (w1.heap.size) 0 [.int .i64 a.a.re, .int .i64 a.a.im, .int .i64 a.a.den, .int .i64 a.b.re, .int .i64 a.b.im, .int .i64 a.b.den, .int .i64 a.c.re, .int .i64 a.c.im, .int .i64 a.c.den, .int .i64 a.d.re, .int .i64 a.d.im, .int .i64 a.d.den]) := rangeAt_below (World.rangeAt_alloc Ha.out _) hb (by first | omega | (simp; done) | (simp <;> omega))
    have Hb : Hid (w6.rangeAt (w1.heap.size + 1) 0 [.int .i64 b.a.re, .int .i64 b.a.im, .int .i64 b.a.den, .int .i64 b.b.re, .int .i64 b.b.im, .int .i64 b.b.den, .int .i64 b.c.re, .int .i64 b.c.im, .int .i64 b.c.den, .int .i64 b.d.re, .int .i64 b.d.im, .int .i64 b.d.den]) := rangeAt_below (World.rangeAt_alloc Hb.out _) hb (by first | omega | (simp; done) | (simp <;> omega))
    have Hv : Hid (w6.rangeAt (w3.heap.size) 0 [.int .i64 1, .int .i64 0, .int .i64 1, .int .i64 0, .int .i64 0, .int .i64 1]) := rangeAt_below (World.rangeAt_alloc Hv.out _) hb (by first | omega | (simp; done) | (simp <;> omega))
    have Hx : Hid (w6.rangeAt (w4.heap.size) 0 [.int .i64 a.a.re, .int .i64 a.a.im, .int .i64 a.a.den, .int .i64 a.c.re, .int .i64 a.c.im, .int .i64 a.c.den]) := rangeAt_below (World.rangeAt_alloc Hx.out _) hb (by first | omega | (simp; done) | (simp <;> omega))
    have Hy : Hid (w6.rangeAt (w5.heap.size) 0 [.int .i64 b.a.re, .int .i64 b.a.im, .int .i64 b.a.den, .int .i64 b.c.re, .int .i64 b.c.im, .int .i64 b.c.den]) := rangeAt_below (rangeAt_new _ _ _) hb (by first | omega | (simp; done) | (simp <;> omega))
    have hz6 := hb.size
    (try simp at hz6)
    clear hb
    have nA0 : w1.heap.size < w6.heap.size := by omega
    have nB0 : ¬ w1.heap.size = w6.heap.size := by omega
    have nC0 : ¬ w6.heap.size = w1.heap.size := by omega
    have nA1 : w1.heap.size + 1 < w6.heap.size := by omega
    have nB1 : ¬ w1.heap.size + 1 = w6.heap.size := by omega
    have nC1 : ¬ w6.heap.size = w1.heap.size + 1 := by omega
    have nA2 : w3.heap.size < w6.heap.size := by omega
    have nB2 : ¬ w3.heap.size = w6.heap.size := by omega
    have nC2 : ¬ w6.heap.size = w3.heap.size := by omega
    have nA3 : w4.heap.size < w6.heap.size := by omega
    have nB3 : ¬ w4.heap.size = w6.heap.size := by omega
    have nC3 : ¬ w6.heap.size = w4.heap.size := by omega
    have nA4 : w5.heap.size < w6.heap.size := by omega
    have nB4 : ¬ w5.heap.size = w6.heap.size := by omega
    have nC4 : ¬ w6.heap.size = w5.heap.size := by omega
    have zx_0 : w6.cell? ⟨w4.heap.size, 0, none⟩ = some (.int .i64 a.a.re) := by have := Hx.out 0 _ rfl; rwa [Nat.zero_add] at this
    have zx_1 : w6.cell? ⟨w4.heap.size, 1, none⟩ = some (.int .i64 a.a.im) := by have := Hx.out 1 _ rfl; rwa [Nat.zero_add] at this
    have zx_2 : w6.cell? ⟨w4.heap.size, 2, none⟩ = some (.int .i64 a.a.den) := by have := Hx.out 2 _ rfl; rwa [Nat.zero_add] at this
    have zx_3 : w6.cell? ⟨w4.heap.size, 3, none⟩ = some (.int .i64 a.c.re) := by have := Hx.out 3 _ rfl; rwa [Nat.zero_add] at this
    have zx_4 : w6.cell? ⟨w4.heap.size, 4, none⟩ = some (.int .i64 a.c.im) := by have := Hx.out 4 _ rfl; rwa [Nat.zero_add] at this
    have zx_5 : w6.cell? ⟨w4.heap.size, 5, none⟩ = some (.int .i64 a.c.den) := by have := Hx.out 5 _ rfl; rwa [Nat.zero_add] at this
    have zy_0 : w6.cell? ⟨w5.heap.size, 0, none⟩ = some (.int .i64 b.a.re) := by have := Hy.out 0 _ rfl; rwa [Nat.zero_add] at this
    have zy_1 : w6.cell? ⟨w5.heap.size, 1, none⟩ = some (.int .i64 b.a.im) := by have := Hy.out 1 _ rfl; rwa [Nat.zero_add] at this
    have zy_2 : w6.cell? ⟨w5.heap.size, 2, none⟩ = some (.int .i64 b.a.den) := by have := Hy.out 2 _ rfl; rwa [Nat.zero_add] at this
    have zy_3 : w6.cell? ⟨w5.heap.size, 3, none⟩ = some (.int .i64 b.c.re) := by have := Hy.out 3 _ rfl; rwa [Nat.zero_add] at this
    have zy_4 : w6.cell? ⟨w5.heap.size, 4, none⟩ = some (.int .i64 b.c.im) := by have := Hy.out 4 _ rfl; rwa [Nat.zero_add] at this
    have zy_5 : w6.cell? ⟨w5.heap.size, 5, none⟩ = some (.int .i64 b.c.den) := by have := Hy.out 5 _ rfl; rwa [Nat.zero_add] at this
    obtain ⟨t2, ht2⟩ : ∃ zf, zf = (fTimes a.c b.a).1 := ⟨_, rfl⟩
    obtain ⟨b2, hb2⟩ : ∃ zb, zb = (fTimes a.c b.a).2 := ⟨_, rfl⟩
    have HT2 : Hid (fTimes a.c b.a = (t2, b2)) := by show _ = _; rw [ht2, hb2]
    have HT2b := Lib.hid hb2
    clear ht2 hb2
    go_wp2_with fail
    refine (times_fr a.c b.a _).mono ?_
    rintro e w7 ho
    rw [HT2.out] at ho
    obtain ⟨rfl, hb⟩ : e = .returned (.tuple #[.agg #[.int .i64 t2.re, .int .i64 t2.im, .int .i64 t2.den], .bool b2]) ∧ Below _ _ _ := ho.fn
    clear ho
    have HB := Lib.hid (show Below w.heap.size w w7 from HB.out.trans ((show Below _ _ _ from ((Below.refl _ _).alloc (by first | omega | (simp; done) | (simp <;> omega)) _)).trans (hb.mono (by first | omega | (simp <;> omega)))))
    have Ha : Hid (w7.rangeAt (w1.heap.size) 0 [.int .i64 a.a.re, .int .i64 a.a.im, .int .i64 a.a.den, .int .i64 a.b.re, .int .i64 a.b.im, .int .i64 a.b.den, .int .i64 a.c.re, .int .i64 a.c.im, .int .i64 a.c.den, .int .i64 a.d.re, .int .i64 a.d.im, .int .i64 a.d.den]) := rangeAt_below (World.rangeAt_alloc Ha.out _) hb (by first | omega | (simp; done) | (simp <;> omega))
    have Hb : Hid (w7.rangeAt (w1.heap.size + 1) 0 [.int .i64 b.a.re, .int .i64 b.a.im, .int .i64 b.a.den, .int .i64 b.b.re, .int .i64 b.b.im, .int .i64 b.b.den, .int .i64 b.c.re, .int .i64 b.c.im, .int .i64 b.c.den, .int .i64 b.d.re, .int .i64 b.d.im, .int .i64 b.d.den]) := rangeAt_below (World.rangeAt_alloc Hb.out _) hb (by first | omega | (simp; done) | (simp <;> omega))
    have Hv : Hid (w7.rangeAt (w3.heap.size) 0 [.int .i64 1, .int .i64 0, .int .i64 1, .int .i64 0, .int .i64 0, .int .i64 1]) := rangeAt_below (World.rangeAt_alloc Hv.out _) hb (by first | omega | (simp; done) | (simp <;> omega))
    have Hx : Hid (w7.rangeAt (w4.heap.size) 0 [.int .i64 a.a.re, .int .i64 a.a.im, .int .i64 a.a.den, .int .i64 a.c.re, .int .i64 a.c.im, .int .i64 a.c.den]) := rangeAt_below (World.rangeAt_alloc Hx.out _) hb (by first | omega | (simp; done) | (simp <;> omega))
    have Hy : Hid (w7.rangeAt (w5.heap.size) 0 [.int .i64 b.a.re, .int .i64 b.a.im, .int .i64 b.a.den, .int .i64 b.c.re, .int .i64 b.c.im, .int .i64 b.c.den]) := rangeAt_below (World.rangeAt_alloc Hy.out _) hb (by first | omega | (simp; done) | (simp <;> omega))
    have Ht1 : Hid (w7.rangeAt (w6.heap.size) 0 [.int .i64 t1.re, .int .i64 t1.im, .int .i64 t1.den]) := rangeAt_below (rangeAt_new _ _ _) hb (by first | omega | (simp; done) | (simp <;> omega))
    have hz7 := hb.size
    (try simp at hz7)
    clear hb
    have nA0 : w1.heap.size < w7.heap.size := by omega
    have nB0 : ¬ w1.heap.size = w7.heap.size := by omega
    have nC0 : ¬ w7.heap.size = w1.heap.size := by omega
    have nA1 : w1.heap.size + 1 < w7.heap.size := by omega
    have nB1 : ¬ w1.heap.size + 1 = w7.heap.size := by omega
    have nC1 : ¬ w7.heap.size = w1.heap.size + 1 := by omega
    have nA2 : w3.heap.size < w7.heap.size := by omega
    have nB2 : ¬ w3.heap.size = w7.heap.size := by omega
    have nC2 : ¬ w7.heap.size = w3.heap.size := by omega
    have nA3 : w4.heap.size < w7.heap.size := by omega
    have nB3 : ¬ w4.heap.size = w7.heap.size := by omega
    have nC3 : ¬ w7.heap.size = w4.heap.size := by omega
    have nA4 : w5.heap.size < w7.heap.size := by omega
    have nB4 : ¬ w5.heap.size = w7.heap.size := by omega
    have nC4 : ¬ w7.heap.size = w5.heap.size := by omega
    have nA5 : w6.heap.size < w7.heap.size := by omega
    have nB5 : ¬ w6.heap.size = w7.heap.size := by omega
    have nC5 : ¬ w7.heap.size = w6.heap.size := by omega
    cases b1
    · skip
      go_wp2_with (first | ((with_reducible refine wpList_load_mid ?kl131 41 ?kl13x ?kl132 (w1.heap.size + 1) 0 ?kl133 [.int .i64 b.a.re, .int .i64 b.a.im, .int .i64 b.a.den, .int .i64 b.b.re, .int .i64 b.b.im, .int .i64 b.b.den, .int .i64 b.c.re, .int .i64 b.c.im, .int .i64 b.c.den, .int .i64 b.d.re, .int .i64 b.d.im, .int .i64 b.d.den] ?kl13d ?kl134 ?kl135 ?kl136 ?kl137 ?kl138); (case kl132 => rfl); (case kl131 => rfl); (case kl133 => rfl); (case kl134 => (exact (World.rangeAt_alloc Hb.out _))); (case kl135 => exact Tryd.underlying41); (case kl136 => rfl); (case kl137 => kernel_rfl)) | ((with_reducible refine wpList_load_mid ?kl141 41 ?kl14x ?kl142 (w1.heap.size) 0 ?kl143 [.int .i64 a.a.re, .int .i64 a.a.im, .int .i64 a.a.den, .int .i64 a.b.re, .int .i64 a.b.im, .int .i64 a.b.den, .int .i64 a.c.re, .int .i64 a.c.im, .int .i64 a.c.den, .int .i64 a.d.re, .int .i64 a.d.im, .int .i64 a.d.den] ?kl14d ?kl144 ?kl145 ?kl146 ?kl147 ?kl148); (case kl142 => rfl); (case kl141 => rfl); (case kl143 => rfl); (case kl144 => (exact (World.rangeAt_alloc Ha.out _))); (case kl145 => exact Tryd.underlying41); (case kl146 => rfl); (case kl147 => kernel_rfl)))
      refine (imal_any b a _ (HG_zero.out.below (Below.alloc HB.out (by first | omega | (simp; done) | (simp <;> omega)) _))).mono ?_
      rintro e w8 ho
      rw [hl2] at ho
      obtain ⟨rfl, hb⟩ : e = .returned (.bool true) ∧ Below _ _ _ := (id ho)
      clear ho
      have HB := Lib.hid (show Below w.heap.size w w8 from HB.out.trans ((show Below _ _ _ from ((Below.refl _ _).alloc (by first | omega | (simp; done) | (simp <;> omega)) _)).trans (hb.mono (by first | omega | (simp <;> omega)))))
      have Ha : Hid (w8.rangeAt (w1.heap.size) 0 [.int .i64 a.a.re, .int .i64 a.a.im, .int .i64 a.a.den, .int .i64 a.b.re, .int .i64 a.b.im, .int .i64 a.b.den, .int .i64 a.c.re, .int .i64 a.c.im, .int .i64 a.c.den, .int .i64 a.d.re, .int .i64 a.d.im, .int .i64 a.d.den]) := rangeAt_below (World.rangeAt_alloc Ha.out _) hb (by first | omega | (simp; done) | (simp <;> omega))
      have Hb : Hid (w8.rangeAt (w1.heap.size + 1) 0 [.int .i64 b.a.re, .int .i64 b.a.im, .int .i64 b.a.den, .int .i64 b.b.re, .int .i64 b.b.im, .int .i64 b.b.den, .int .i64 b.c.re, .int .i64 b.c.im, .int .i64 b.c.den, .int .i64 b.d.re, .int .i64 b.d.im, .int .i64 b.d.den]) := rangeAt_below (World.rangeAt_alloc Hb.out _) hb (by first | omega | (simp; done) | (simp <;> omega))
      have Hv : Hid (w8.rangeAt (w3.heap.size) 0 [.int .i64 1, .int .i64 0, .int .i64 1, .int .i64 0, .int .i64 0, .int .i64 1]) := rangeAt_below (World.rangeAt_alloc Hv.out _) hb (by first | omega | (simp; done) | (simp <;> omega))
      have Hx : Hid (w8.rangeAt (w4.heap.size) 0 [.int .i64 a.a.re, .int .i64 a.a.im, .int .i64 a.a.den, .int .i64 a.c.re, .int .i64 a.c.im, .int .i64 a.c.den]) := rangeAt_below (World.rangeAt_alloc Hx.out _) hb (by first | omega | (simp; done) | (simp <;> omega))
      have Hy : Hid (w8.rangeAt (w5.heap.size) 0 [.int .i64 b.a.re, .int .i64 b.a.im, .int .i64 b.a.den, .int .i64 b.c.re, .int .i64 b.c.im, .int .i64 b.c.den]) := rangeAt_below (World.rangeAt_alloc Hy.out _) hb (by first | omega | (simp; done) | (simp <;> omega))
      have Ht1 : Hid (w8.rangeAt (w6.heap.size) 0 [.int .i64 t1.re, .int .i64 t1.im, .int .i64 t1.den]) := rangeAt_below (World.rangeAt_alloc Ht1.out _) hb (by first | omega | (simp; done) | (simp <;> omega))
      have Ht2 : Hid (w8.rangeAt (w7.heap.size) 0 [.int .i64 t2.re, .int .i64 t2.im, .int .i64 t2.den]) := rangeAt_below (rangeAt_new _ _ _) hb (by first | omega | (simp; done) | (simp <;> omega))
      have hz8 := hb.size
      (try simp at hz8)
      clear hb
      have nA0 : w1.heap.size < w8.heap.size := by omega
      have nB0 : ¬ w1.heap.size = w8.heap.size := by omega
      have nC0 : ¬ w8.heap.size = w1.heap.size := by omega
      have nA1 : w1.heap.size + 1 < w8.heap.size := by omega
      have nB1 : ¬ w1.heap.size + 1 = w8.heap.size := by omega
      have nC1 : ¬ w8.heap.size = w1.heap.size + 1 := by omega
      have nA2 : w3.heap.size < w8.heap.size := by omega
      have nB2 : ¬ w3.heap.size = w8.heap.size := by omega
      have nC2 : ¬ w8.heap.size = w3.heap.size := by omega
      have nA3 : w4.heap.size < w8.heap.size := by omega
      have nB3 : ¬ w4.heap.size = w8.heap.size := by omega
      have nC3 : ¬ w8.heap.size = w4.heap.size := by omega
      have nA4 : w5.heap.size < w8.heap.size := by omega
      have nB4 : ¬ w5.heap.size = w8.heap.size := by omega
      have nC4 : ¬ w8.heap.size = w5.heap.size := by omega
      have nA5 : w6.heap.size < w8.heap.size := by omega
      have nB5 : ¬ w6.heap.size = w8.heap.size := by omega
      have nC5 : ¬ w8.heap.size = w6.heap.size := by omega
      have nA6 : w7.heap.size < w8.heap.size := by omega
      have nB6 : ¬ w7.heap.size = w8.heap.size := by omega
      have nC6 : ¬ w8.heap.size = w7.heap.size := by omega
      go_wp2_with fail
      go_ret
      exact ⟨rfl, (by (repeat' first | (with_reducible exact HB.out) | with_reducible refine setCells_below _ _ _ ?_ (by first | omega | (simp <;> omega)) | with_reducible refine Below.setCell ?_ (by show _ ≤ _; first | omega | (simp <;> omega) | simp) _ | with_reducible refine Below.alloc ?_ (by first | omega | (simp <;> omega)) _ | with_reducible apply Below.drew | with_reducible refine below_drewN ?_ _))⟩
    cases b2
    · skip
      go_wp2_with (first | ((with_reducible refine wpList_load_mid ?kl151 41 ?kl15x ?kl152 (w1.heap.size + 1) 0 ?kl153 [.int .i64 b.a.re, .int .i64 b.a.im, .int .i64 b.a.den, .int .i64 b.b.re, .int .i64 b.b.im, .int .i64 b.b.den, .int .i64 b.c.re, .int .i64 b.c.im, .int .i64 b.c.den, .int .i64 b.d.re, .int .i64 b.d.im, .int .i64 b.d.den] ?kl15d ?kl154 ?kl155 ?kl156 ?kl157 ?kl158); (case kl152 => rfl); (case kl151 => rfl); (case kl153 => rfl); (case kl154 => (exact (World.rangeAt_alloc Hb.out _))); (case kl155 => exact Tryd.underlying41); (case kl156 => rfl); (case kl157 => kernel_rfl)) | ((with_reducible refine wpList_load_mid ?kl161 41 ?kl16x ?kl162 (w1.heap.size) 0 ?kl163 [.int .i64 a.a.re, .int .i64 a.a.im, .int .i64 a.a.den, .int .i64 a.b.re, .int .i64 a.b.im, .int .i64 a.b.den, .int .i64 a.c.re, .int .i64 a.c.im, .int .i64 a.c.den, .int .i64 a.d.re, .int .i64 a.d.im, .int .i64 a.d.den] ?kl16d ?kl164 ?kl165 ?kl166 ?kl167 ?kl168); (case kl162 => rfl); (case kl161 => rfl); (case kl163 => rfl); (case kl164 => (exact (World.rangeAt_alloc Ha.out _))); (case kl165 => exact Tryd.underlying41); (case kl166 => rfl); (case kl167 => kernel_rfl)))
      refine (imal_any b a _ (HG_zero.out.below (Below.alloc HB.out (by first | omega | (simp; done) | (simp <;> omega)) _))).mono ?_
      rintro e w8 ho
      rw [hl2] at ho
      obtain ⟨rfl, hb⟩ : e = .returned (.bool true) ∧ Below _ _ _ := (id ho)
      clear ho
      have HB := Lib.hid (show Below w.heap.size w w8 from HB.out.trans ((show Below _ _ _ from ((Below.refl _ _).alloc (by first | omega | (simp; done) | (simp <;> omega)) _)).trans (hb.mono (by first | omega | (simp <;> omega)))))
      have Ha : Hid (w8.rangeAt (w1.heap.size) 0 [.int .i64 a.a.re, .int .i64 a.a.im, .int .i64 a.a.den, .int .i64 a.b.re, .int .i64 a.b.im, .int .i64 a.b.den, .int .i64 a.c.re, .int .i64 a.c.im, .int .i64 a.c.den, .int .i64 a.d.re, .int .i64 a.d.im, .int .i64 a.d.den]) := rangeAt_below (World.rangeAt_alloc Ha.out _) hb (by first | omega | (simp; done) | (simp <;> omega))
      have Hb : Hid (w8.rangeAt (w1.heap.size + 1) 0 [.int .i64 b.a.re, .int .i64 b.a.im, .int .i64 b.a.den, .int .i64 b.b.re, .int .i64 b.b.im, .int .i64 b.b.den, .int .i64 b.c.re, .int .i64 b.c.im, .int .i64 b.c.den, .int .i64 b.d.re, .int .i64 b.d.im, .int .i64 b.d.den]) := rangeAt_below (World.rangeAt_alloc Hb.out _) hb (by first | omega | (simp; done) | (simp <;> omega))
      have Hv : Hid (w8.rangeAt (w3.heap.size) 0 [.int .i64 1, .int .i64 0, .int .i64 1, .int .i64 0, .int .i64 0, .int .i64 1]) := rangeAt_below (World.rangeAt_alloc Hv.out _) hb (by first | omega | (simp; done) | (simp <;> omega))
      have Hx : Hid (w8.rangeAt (w4.heap.size) 0 [.int .i64 a.a.re, .int .i64 a.a.im, .int .i64 a.a.den, .int .i64 a.c.re, .int .i64 a.c.im, .int .i64 a.c.den]) := rangeAt_below (World.rangeAt_alloc Hx.out _) hb (by first | omega | (simp; done) | (simp <;> omega))
      have Hy : Hid (w8.rangeAt (w5.heap.size) 0 [.int .i64 b.a.re, .int .i64 b.a.im, .int .i64 b.a.den, .int .i64 b.c.re, .int .i64 b.c.im, .int .i64 b.c.den]) := rangeAt_below (World.rangeAt_alloc Hy.out _) hb (by first | omega | (simp; done) | (simp <;> omega))
      have Ht1 : Hid (w8.rangeAt (w6.heap.size) 0 [.int .i64 t1.re, .int .i64 t1.im, .int .i64 t1.den]) := rangeAt_below (World.rangeAt_alloc Ht1.out _) hb (by first | omega | (simp; done) | (simp <;> omega))
      have Ht2 : Hid (w8.rangeAt (w7.heap.size) 0 [.int .i64 t2.re, .int .i64 t2.im, .int .i64 t2.den]) := rangeAt_below (rangeAt_new _ _ _) hb (by first | omega | (simp; done) | (simp <;> omega))
      have hz8 := hb.size
      (try simp at hz8)
      clear hb
      have nA0 : w1.heap.size < w8.heap.size := by omega
      have nB0 : ¬ w1.heap.size = w8.heap.size := by omega
      have nC0 : ¬ w8.heap.size = w1.heap.size := by omega
      have nA1 : w1.heap.size + 1 < w8.heap.size := by omega
      have nB1 : ¬ w1.heap.size + 1 = w8.heap.size := by omega
      have nC1 : ¬ w8.heap.size = w1.heap.size + 1 := by omega
      have nA2 : w3.heap.size < w8.heap.size := by omega
      have nB2 : ¬ w3.heap.size = w8.heap.size := by omega
      have nC2 : ¬ w8.heap.size = w3.heap.size := by omega
      have nA3 : w4.heap.size < w8.heap.size := by omega
      have nB3 : ¬ w4.heap.size = w8.heap.size := by omega
      have nC3 : ¬ w8.heap.size = w4.heap.size := by omega
      have nA4 : w5.heap.size < w8.heap.size := by omega
      have nB4 : ¬ w5.heap.size = w8.heap.size := by omega
      have nC4 : ¬ w8.heap.size = w5.heap.size := by omega
      have nA5 : w6.heap.size < w8.heap.size := by omega
      have nB5 : ¬ w6.heap.size = w8.heap.size := by omega
      have nC5 : ¬ w8.heap.size = w6.heap.size := by omega
      have nA6 : w7.heap.size < w8.heap.size := by omega
      have nB6 : ¬ w7.heap.size = w8.heap.size := by omega
      have nC6 : ¬ w8.heap.size = w7.heap.size := by omega
      go_wp2_with fail
      go_ret
      exact ⟨rfl, (by (repeat' first | (with_reducible exact HB.out) | with_reducible refine setCells_below _ _ _ ?_ (by first | omega | (simp <;> omega)) | with_reducible refine Below.setCell ?_ (by show _ ≤ _; first | omega | (simp <;> omega) | simp) _ | with_reducible refine Below.alloc ?_ (by first | omega | (simp <;> omega)) _ | with_reducible apply Below.drew | with_reducible refine below_drewN ?_ _))⟩
    have hal := HLM.out (by rw [HT1.out]) (by rw [HT2.out])
    go_wp2_with (first | ((with_reducible refine wpList_load_mid ?kl171 41 ?kl17x ?kl172 (w1.heap.size + 1) 0 ?kl173 [.int .i64 b.a.re, .int .i64 b.a.im, .int .i64 b.a.den, .int .i64 b.b.re, .int .i64 b.b.im, .int .i64 b.b.den, .int .i64 b.c.re, .int .i64 b.c.im, .int .i64 b.c.den, .int .i64 b.d.re, .int .i64 b.d.im, .int .i64 b.d.den] ?kl17d ?kl174 ?kl175 ?kl176 ?kl177 ?kl178); (case kl172 => rfl); (case kl171 => rfl); (case kl173 => rfl); (case kl174 => (exact (World.rangeAt_alloc Hb.out _))); (case kl175 => exact Tryd.underlying41); (case kl176 => rfl); (case kl177 => kernel_rfl)) | ((with_reducible refine wpList_load_mid ?kl181 41 ?kl18x ?kl182 (w1.heap.size) 0 ?kl183 [.int .i64 a.a.re, .int .i64 a.a.im, .int .i64 a.a.den, .int .i64 a.b.re, .int .i64 a.b.im, .int .i64 a.b.den, .int .i64 a.c.re, .int .i64 a.c.im, .int .i64 a.c.den, .int .i64 a.d.re, .int .i64 a.d.im, .int .i64 a.d.den] ?kl18d ?kl184 ?kl185 ?kl186 ?kl187 ?kl188); (case kl182 => rfl); (case kl181 => rfl); (case kl183 => rfl); (case kl184 => (exact (World.rangeAt_alloc Ha.out _))); (case kl185 => exact Tryd.underlying41); (case kl186 => rfl); (case kl187 => kernel_rfl)))
    refine (imal_any b a _ (HG_zero.out.below (Below.alloc HB.out (by first | omega | (simp; done) | (simp <;> omega)) _))).mono ?_
    rintro e w8 ho
    rw [hl2] at ho
    obtain ⟨rfl, hb⟩ : e = .returned (.bool true) ∧ Below _ _ _ := (id ho)
    clear ho
    have HB := Lib.hid (show Below w.heap.size w w8 from HB.out.trans ((show Below _ _ _ from ((Below.refl _ _).alloc (by first | omega | (simp; done) | (simp <;> omega)) _)).trans (hb.mono (by first | omega | (simp <;> omega)))))
    have Ha : Hid (w8.rangeAt (w1.heap.size) 0 [.int .i64 a.a.re, .int .i64 a.a.im, .int .i64 a.a.den, .int .i64 a.b.re, .int .i64 a.b.im, .int .i64 a.b.den, .int .i64 a.c.re, .int .i64 a.c.im, .int .i64 a.c.den, .int .i64 a.d.re, .int .i64 a.d.im, .int .i64 a.d.den]) := rangeAt_below (World.rangeAt_alloc Ha.out _) hb (by first | omega | (simp; done) | (simp <;> omega))
    have Hb : Hid (w8.rangeAt (w1.heap.size + 1) 0 [.int .i64 b.a.re, .int .i64 b.a.im, .int .i64 b.a.den, .int .i64 b.b.re, .int .i64 b.b.im, .int .i64 b.b.den, .int .i64 b.c.re, .int .i64 b.c.im, .int .i64 b.c.den, .int .i64 b.d.re, .int .i64 b.d.im, .int .i64 b.d.den]) := rangeAt_below (World.rangeAt_alloc Hb.out _) hb (by first | omega | (simp; done) | (simp <;> omega))
    have Hv : Hid (w8.rangeAt (w3.heap.size) 0 [.int .i64 1, .int .i64 0, .int .i64 1, .int .i64 0, .int .i64 0, .int .i64 1]) := rangeAt_below (World.rangeAt_alloc Hv.out _) hb (by first | omega | (simp; done) | (simp <;> omega))
    have Hx : Hid (w8.rangeAt (w4.heap.size) 0 [.int .i64 a.a.re, .int .i64 a.a.im, .int .i64 a.a.den, .int .i64 a.c.re, .int .i64 a.c.im, .int .i64 a.c.den]) := rangeAt_below (World.rangeAt_alloc Hx.out _) hb (by first | omega | (simp; done) | (simp <;> omega))
    have Hy : Hid (w8.rangeAt (w5.heap.size) 0 [.int .i64 b.a.re, .int .i64 b.a.im, .int .i64 b.a.den, .int .i64 b.c.re, .int .i64 b.c.im, .int .i64 b.c.den]) := rangeAt_below (World.rangeAt_alloc Hy.out _) hb (by first | omega | (simp; done) | (simp <;> omega))
    have Ht1 : Hid (w8.rangeAt (w6.heap.size) 0 [.int .i64 t1.re, .int .i64 t1.im, .int .i64 t1.den]) := rangeAt_below (World.rangeAt_alloc Ht1.out _) hb (by first | omega | (simp; done) | (simp <;> omega))
    have Ht2 : Hid (w8.rangeAt (w7.heap.size) 0 [.int .i64 t2.re, .int .i64 t2.im, .int .i64 t2.den]) := rangeAt_below (rangeAt_new _ _ _) hb (by first | omega | (simp; done) | (simp <;> omega))
    have hz8 := hb.size
    (try simp at hz8)
    clear hb
    have nA0 : w1.heap.size < w8.heap.size := by omega
    have nB0 : ¬ w1.heap.size = w8.heap.size := by omega
    have nC0 : ¬ w8.heap.size = w1.heap.size := by omega
    have nA1 : w1.heap.size + 1 < w8.heap.size := by omega
    have nB1 : ¬ w1.heap.size + 1 = w8.heap.size := by omega
    have nC1 : ¬ w8.heap.size = w1.heap.size + 1 := by omega
    have nA2 : w3.heap.size < w8.heap.size := by omega
    have nB2 : ¬ w3.heap.size = w8.heap.size := by omega
    have nC2 : ¬ w8.heap.size = w3.heap.size := by omega
    have nA3 : w4.heap.size < w8.heap.size := by omega
    have nB3 : ¬ w4.heap.size = w8.heap.size := by omega
    have nC3 : ¬ w8.heap.size = w4.heap.size := by omega
    have nA4 : w5.heap.size < w8.heap.size := by omega
    have nB4 : ¬ w5.heap.size = w8.heap.size := by omega
    have nC4 : ¬ w8.heap.size = w5.heap.size := by omega
    have nA5 : w6.heap.size < w8.heap.size := by omega
    have nB5 : ¬ w6.heap.size = w8.heap.size := by omega
    have nC5 : ¬ w8.heap.size = w6.heap.size := by omega
    have nA6 : w7.heap.size < w8.heap.size := by omega
    have nB6 : ¬ w7.heap.size = w8.heap.size := by omega
    have nC6 : ¬ w8.heap.size = w7.heap.size := by omega
    have zx_0 : w8.cell? ⟨w4.heap.size, 0, none⟩ = some (.int .i64 a.a.re) := by have := Hx.out 0 _ rfl; rwa [Nat.zero_add] at this
    have zx_1 : w8.cell? ⟨w4.heap.size, 1, none⟩ = some (.int .i64 a.a.im) := by have := Hx.out 1 _ rfl; rwa [Nat.zero_add] at this
    have zx_2 : w8.cell? ⟨w4.heap.size, 2, none⟩ = some (.int .i64 a.a.den) := by have := Hx.out 2 _ rfl; rwa [Nat.zero_add] at this
    have zx_3 : w8.cell? ⟨w4.heap.size, 3, none⟩ = some (.int .i64 a.c.re) := by have := Hx.out 3 _ rfl; rwa [Nat.zero_add] at this
    have zx_4 : w8.cell? ⟨w4.heap.size, 4, none⟩ = some (.int .i64 a.c.im) := by have := Hx.out 4 _ rfl; rwa [Nat.zero_add] at this
    have zx_5 : w8.cell? ⟨w4.heap.size, 5, none⟩ = some (.int .i64 a.c.den) := by have := Hx.out 5 _ rfl; rwa [Nat.zero_add] at this
    have zy_0 : w8.cell? ⟨w5.heap.size, 0, none⟩ = some (.int .i64 b.a.re) := by have := Hy.out 0 _ rfl; rwa [Nat.zero_add] at this
    have zy_1 : w8.cell? ⟨w5.heap.size, 1, none⟩ = some (.int .i64 b.a.im) := by have := Hy.out 1 _ rfl; rwa [Nat.zero_add] at this
    have zy_2 : w8.cell? ⟨w5.heap.size, 2, none⟩ = some (.int .i64 b.a.den) := by have := Hy.out 2 _ rfl; rwa [Nat.zero_add] at this
    have zy_3 : w8.cell? ⟨w5.heap.size, 3, none⟩ = some (.int .i64 b.c.re) := by have := Hy.out 3 _ rfl; rwa [Nat.zero_add] at this
    have zy_4 : w8.cell? ⟨w5.heap.size, 4, none⟩ = some (.int .i64 b.c.im) := by have := Hy.out 4 _ rfl; rwa [Nat.zero_add] at this
    have zy_5 : w8.cell? ⟨w5.heap.size, 5, none⟩ = some (.int .i64 b.c.den) := by have := Hy.out 5 _ rfl; rwa [Nat.zero_add] at this
    go_wp2_with fail
    refine (ijal_any ⟨a.a, a.c⟩ ⟨b.a, b.c⟩ _ (HG_zero.out.below HB.out)).mono ?_
    rintro e w9 ho
    rw [hal] at ho
    obtain ⟨rfl, hb⟩ : e = .returned (.bool true) ∧ Below _ _ _ := (id ho)
    clear ho
    have HB := Lib.hid (show Below w.heap.size w w9 from HB.out.trans ((show Below _ _ _ from (Below.refl _ _)).trans (hb.mono (by first | omega | (simp <;> omega)))))
    have Ha : Hid (w9.rangeAt (w1.heap.size) 0 [.int .i64 a.a.re, .int .i64 a.a.im, .int .i64 a.a.den, .int .i64 a.b.re, .int .i64 a.b.im, .int .i64 a.b.den, .int .i64 a.c.re, .int .i64 a.c.im, .int .i64 a.c.den, .int .i64 a.d.re, .int .i64 a.d.im, .int .i64 a.d.den]) := rangeAt_below Ha.out hb (by first | omega | (simp; done) | (simp <;> omega))
    have Hb : Hid (w9.rangeAt (w1.heap.size + 1) 0 [.int .i64 b.a.re, .int .i64 b.a.im, .int .i64 b.a.den, .int .i64 b.b.re, .int .i64 b.b.im, .int .i64 b.b.den, .int .i64 b.c.re, .int .i64 b.c.im, .int .i64 b.c.den, .int .i64 b.d.re, .int .i64 b.d.im, .int .i64 b.d.den]) := rangeAt_below Hb.out hb (by first | omega | (simp; done) | (simp <;> omega))
    have Hv : Hid (w9.rangeAt (w3.heap.size) 0 [.int .i64 1, .int .i64 0, .int .i64 1, .int .i64 0, .int .i64 0, .int .i64 1]) := rangeAt_below Hv.out hb (by first | omega | (simp; done) | (simp <;> omega))
    have Hx : Hid (w9.rangeAt (w4.heap.size) 0 [.int .i64 a.a.re, .int .i64 a.a.im, .int .i64 a.a.den, .int .i64 a.c.re, .int .i64 a.c.im, .int .i64 a.c.den]) := rangeAt_below Hx.out hb (by first | omega | (simp; done) | (simp <;> omega))
    have Hy : Hid (w9.rangeAt (w5.heap.size) 0 [.int .i64 b.a.re, .int .i64 b.a.im, .int .i64 b.a.den, .int .i64 b.c.re, .int .i64 b.c.im, .int .i64 b.c.den]) := rangeAt_below Hy.out hb (by first | omega | (simp; done) | (simp <;> omega))
    have Ht1 : Hid (w9.rangeAt (w6.heap.size) 0 [.int .i64 t1.re, .int .i64 t1.im, .int .i64 t1.den]) := rangeAt_below Ht1.out hb (by first | omega | (simp; done) | (simp <;> omega))
    have Ht2 : Hid (w9.rangeAt (w7.heap.size) 0 [.int .i64 t2.re, .int .i64 t2.im, .int .i64 t2.den]) := rangeAt_below Ht2.out hb (by first | omega | (simp; done) | (simp <;> omega))
    have hz9 := hb.size
    (try simp at hz9)
    clear hb
    have nA0 : w1.heap.size < w9.heap.size := by omega
    have nB0 : ¬ w1.heap.size = w9.heap.size := by omega
    have nC0 : ¬ w9.heap.size = w1.heap.size := by omega
    have nA1 : w1.heap.size + 1 < w9.heap.size := by omega
    have nB1 : ¬ w1.heap.size + 1 = w9.heap.size := by omega
    have nC1 : ¬ w9.heap.size = w1.heap.size + 1 := by omega
    have nA2 : w3.heap.size < w9.heap.size := by omega
    have nB2 : ¬ w3.heap.size = w9.heap.size := by omega
    have nC2 : ¬ w9.heap.size = w3.heap.size := by omega
    have nA3 : w4.heap.size < w9.heap.size := by omega
    have nB3 : ¬ w4.heap.size = w9.heap.size := by omega
    have nC3 : ¬ w9.heap.size = w4.heap.size := by omega
    have nA4 : w5.heap.size < w9.heap.size := by omega
    have nB4 : ¬ w5.heap.size = w9.heap.size := by omega
    have nC4 : ¬ w9.heap.size = w5.heap.size := by omega
    have nA5 : w6.heap.size < w9.heap.size := by omega
    have nB5 : ¬ w6.heap.size = w9.heap.size := by omega
    have nC5 : ¬ w9.heap.size = w6.heap.size := by omega
    have nA6 : w7.heap.size < w9.heap.size := by omega
    have nB6 : ¬ w7.heap.size = w9.heap.size := by omega
    have nC6 : ¬ w9.heap.size = w7.heap.size := by omega
    go_wp2_with fail
    go_ret
    exact ⟨rfl, (by (repeat' first | (with_reducible exact HB.out) | with_reducible refine setCells_below _ _ _ ?_ (by first | omega | (simp <;> omega)) | with_reducible refine Below.setCell ?_ (by show _ ≤ _; first | omega | (simp <;> omega) | simp) _ | with_reducible refine Below.alloc ?_ (by first | omega | (simp <;> omega)) _ | with_reducible apply Below.drew | with_reducible refine below_drewN ?_ _))⟩
set_option maxRecDepth 100000 in
theorem door_FnMatAlike (os : Os) (args : Array Value) : laidMetH Tryd.prog Rows.fnMatAlikeRow.laid ((World.doorLaid Tryd.prog 43 os).forCall (fun _ _ => 0) ⟨#[], args, []⟩).memory :=
  laidMetH_of_parts3 (fuel := 8) (laidMet_of_run' 8 (by kernel_rfl) (by kernel_rfl)) (by kernel_rfl) (by kernel_rfl)
set_option maxRecDepth 100000 in
theorem lifted_FnMatAlike (os : Os) (started : os.Started) (H : Type) (enc : TypeId × Value → H) :
    ReturnsInHanded {} Tryd.checked os 14 .any (fun w args => (Rows.fnMatAlikeSpec.pre enc Tryd.prog Tryd.f14 [] false w args ∧ laidMetH Tryd.prog Rows.fnMatAlikeRow.laid w) ∧ sizedMet enc Tryd.prog Tryd.f14 (OpenSpec.ofChange Rows.fnMatAlikeSpec) false w args) (Rows.fnMatAlikeSpec.post enc Tryd.prog Tryd.f14 false true false false) := by
  refine returnsInHanded_of_change_and (C := Tryd.checked) (X := fun w _ => laidMetH Tryd.prog Rows.fnMatAlikeRow.laid w) (fun _ _ _ hh h => h.of_heap hh) Tryd.own started (by kernel_rfl) Tryd.func14
    (ChangeSpec.witness_shaped (enc := enc) (C := Tryd.checked) (os := os) (X := fun w _ => laidMetH Tryd.prog Rows.fnMatAlikeRow.laid w) false (World.doorLaid Tryd.prog 43 os) #[.slice none 0 0] 8 rfl (World.shaped_of_RefB (by kernel_rfl) (by kernel_rfl)) (by kernel_rfl) (by kernel_rfl) (by kernel_rfl) (door_FnMatAlike os _)) ?_
  intro W base args ds gs before hval0 hW _ _ hL _
  have hval : ∀ (j : Nat) t v, Tryd.f14.params[j]? = some t → args[j]? = some v → Value.okWide Tryd.prog W .any base t v := hval0
  have hW' := hW
  obtain ⟨p, q, hA0, hV, rfl, hfz, hnd⟩ := hW
  have hA : DataW.TrodAll enc Tryd.prog W 0 (fun _ => true) true Tryd.f14.params.toList args.toList ds p := hA0
  rw [Tryd.params14] at hA hval
  obtain ⟨v0, d0, rfl, rfl, h0⟩ := trodAll_one hA
  obtain ⟨g0, rfl⟩ := len1 (vars_len hV)
  have hG_zero := gat_zero hL (by decide) (by simp [Rows.fnMatAlikeRow, Rows.laid_loop_example_polarisedlight_impl_zero])
  have h0k := h0
  obtain ⟨fuel, hf⟩ := h0
  clear hA0 hval0
  have hlt : ∀ x ∈ p, x.block < W.heap.size := fun x hx => by simpa using hW'.lt x (List.mem_append_left _ hx)
  obtain ⟨a0, len, cap, rfl⟩ := okWide_slice Tryd.underlying55 (hval 0 55 v0 rfl rfl)
  obtain ⟨hcap, HC⟩ := open_code hf hlt
  refine (walk_FnMatAlike a0 len cap W hcap HC hG_zero).mono fun e W' ⟨he, hb⟩ => ?_
  subst he
  refine ⟨_, rfl, _, _, _, [], p, q, hW', trodAll_mk1 (shut_bool Tryd.underlying4 _), trodAll_mk1 (Below.trod Tryd.laidOut (by kernel_rfl) (of_decide_eq_true (by kernel_rfl)) h0k hb (fun x hx => hlt x (by simp [hx]))), Below.trodVars Tryd.laidOut hb (by kernel_rfl) hV, hb.frame _, fun h => by cases h⟩
theorem said_FnMatAlike : Rows.FnMatAlikeSaid :=
  OpenClaim.holds_of_wide 14 Tryd.f14 rfl rfl rfl rfl rfl rfl rfl ⟨rfl, rfl, rfl, rfl, rfl⟩ rfl rfl rfl rfl rfl (by kernel_rfl) Tryd.func14 (by kernel_rfl)
    (of_decide_eq_true (by kernel_rfl)) (by unfold Func.isWrapper; first | (rw [if_pos (by decide +kernel)]; kernel_rfl) | (rw [if_neg (by decide +kernel)]; exact ⟨rfl, rfl⟩))
    (fun os started H enc _ => lifted_FnMatAlike os started H enc)
set_option maxRecDepth 100000 in
/-- THE STATEMENT: THE CARD. -/
theorem holds_FnMatAlike : Rows.FnMatAlikeCardSaid :=
  Claim7.holds_tied_plain_at .later [] [.data] true (true, "4641a63997bae2f3f605d4183781842987cd6e93f60671f0fe7f4fb0ecf64798") false
    said_FnMatAlike (fun _ h => by cases h) (by kernel_rfl) (fun _ h => by cases h) fnMatAlike_row_tie rfl ⟨rfl, rfl⟩ (by kernel_rfl) rfl
    (fun f fn hf hfn => by
      obtain rfl : f = 14 := Option.some.inj ((show Tryd.prog.funcNamed "loop.example/polarisedlight/laws.FnMatAlike" = some 14 by kernel_rfl).symm.trans hf) |>.symm
      obtain rfl : fn = Tryd.f14 := (Option.some.inj (Tryd.func14.symm.trans hfn)).symm
      exact ⟨by kernel_rfl, fun j t ht => by
        rw [Tryd.params14] at ht
        have hm : t ∈ [55] := by simpa using Array.mem_of_getElem? ht
        have hall : ([55].all fun u => !Tryd.prog.wantsStandIn u) = true := by kernel_rfl
        exact (show Tryd.prog.wantsStandIn t = false by simpa using List.all_eq_true.1 hall t hm)⟩)
    (by kernel_rfl)
end Go.Proofs.YtmcokdiopcpifaaDoor
