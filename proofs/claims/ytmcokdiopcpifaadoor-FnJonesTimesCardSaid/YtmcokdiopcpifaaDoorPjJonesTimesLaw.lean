/- Multiples are alike. The row lists package-level variables, and the card ties them to the text of the program: the pruned copy of the project that the seat holds. -/
import Derived.Test.YtmcokdiopcpifaaDoorPjG16
import Derived.Test.YtmcokdiopcpifaaDoorPjSJI
import Derived.Test.YtmcokdiopcpifaaDoorPjQS
import Derived.Test.YtmcokdiopcpifaaDoorPjDBJ
import Derived.Test.YtmcokdiopcpifaaDoorPjJ3
import Derived.Test.YtmcokdiopcpifaaDoorTie
import Derived.Test.YtmcokdiopcpifaaDoorCards
import Derived.SevenTiedAt
import Derived.Deep.DeepCutAuto
set_option maxRecDepth 100000
namespace Go.Proofs.YtmcokdiopcpifaaDoor
open Go.ChangeShapes Go.WideShapes Go.ChangeAt Go.RowKit Pol
theorem j2of_none {p q : Fr × Bool} (h : (j2of p q).2 = false) : j2of p q = (j2z, false) := by
  unfold j2of at h ⊢
  split
  · next hh => rw [if_pos hh] at h; cases h
  · rfl
set_option maxRecDepth 100000 in
set_option maxHeartbeats 40000000 in
theorem walk_FnJonesTimes (a0 : Option Addr) (len cap : Nat) (w : World) (hcap : len ≤ cap) (HC : Code w.heap.size w a0 len) (hg_zero : Gat w 1 (ixF f0) 1) :
    Calls Tryd.prog 7 #[.slice a0 len cap] w fun e w' => e = .returned (.bool true) ∧ Below w.heap.size w w' := by
  by_cases hbig : 1048576 < len
  · have h1 : (1048576 : Int) < (len : Int) := by omega
    go_enter Tryd.func7, Tryd.ntmps7
    go_wp2
    go_ret
    exact ⟨rfl, Below.refl _ _⟩
  have h1 : ¬ (1048576 : Int) < (len : Int) := by omega
  have HB : Hid (Below w.heap.size w w) := Below.refl _ _
  have HG_zero := Lib.hid hg_zero; clear hg_zero
  go_enter Tryd.func7, Tryd.ntmps7
  go_wp2_with fail
  refine (DrawJonesTimes_any a0 len cap _ hcap HC).mono ?_
  rintro e w1 ⟨a, c, rfl, hb⟩
  have HB := Lib.hid (show Below w.heap.size w w1 from HB.out.trans ((show Below _ _ _ from (Below.refl _ _)).trans (hb.mono (by first | omega | (simp <;> omega)))))
  have hz1 := hb.size
  (try simp at hz1)
  clear hb
  cases hg : (jTim a c).2
  · skip
    have HG : Hid (jTim a c = (j2z, false)) := j2of_none hg
    clear hg
    go_wp2_with (first | ((with_reducible refine wpList_load_mid ?kl11 47 ?kl1x ?kl12 (w1.heap.size) 0 ?kl13 [.int .i64 a.x.re, .int .i64 a.x.im, .int .i64 a.x.den, .int .i64 a.y.re, .int .i64 a.y.im, .int .i64 a.y.den] ?kl1d ?kl14 ?kl15 ?kl16 ?kl17 ?kl18); (case kl12 => rfl); (case kl11 => rfl); (case kl13 => rfl); (case kl14 => (exact (World.rangeAt_alloc (rangeAt_new _ _ _) _))); (case kl15 => exact Tryd.underlying47); (case kl16 => rfl); (case kl17 => kernel_rfl)) | ((with_reducible refine wpList_load_mid ?kl21 23 ?kl2x ?kl22 (w1.heap.size + 1) 0 ?kl23 [.int .i64 c.re, .int .i64 c.im, .int .i64 c.den] ?kl2d ?kl24 ?kl25 ?kl26 ?kl27 ?kl28); (case kl22 => rfl); (case kl21 => rfl); (case kl23 => rfl); (case kl24 => (exact (rangeAt_nw (by simp)))); (case kl25 => exact Tryd.underlying23); (case kl26 => rfl); (case kl27 => kernel_rfl)))
    refine (ijtim a c _).mono ?_
    rintro e w2 ho
    rw [HG.out] at ho
    obtain ⟨rfl, hb⟩ : e = .returned (.tuple #[.agg #[.int .i64 j2z.x.re, .int .i64 j2z.x.im, .int .i64 j2z.x.den, .int .i64 j2z.y.re, .int .i64 j2z.y.im, .int .i64 j2z.y.den], .bool false]) ∧ Below _ _ _ := ho.fn
    clear ho
    have HB := Lib.hid (show Below w.heap.size w w2 from HB.out.trans ((show Below _ _ _ from (((Below.refl _ _).alloc (by first | omega | (simp; done) | (simp <;> omega)) _).alloc (by first | omega | (simp; done) | (simp <;> omega)) _)).trans (hb.mono (by first | omega | (simp <;> omega)))))
    have Ha : Hid (w2.rangeAt (w1.heap.size) 0 [.int .i64 a.x.re, .int .i64 a.x.im, .int .i64 a.x.den, .int .i64 a.y.re, .int .i64 a.y.im, .int .i64 a.y.den]) := rangeAt_below (World.rangeAt_alloc (rangeAt_new _ _ _) _) hb (by first | omega | (simp; done) | (simp <;> omega))
    have Hc : Hid (w2.rangeAt (w1.heap.size + 1) 0 [.int .i64 c.re, .int .i64 c.im, .int .i64 c.den]) := rangeAt_below (rangeAt_nw (by simp)) hb (by first | omega | (simp; done) | (simp <;> omega))
    have hz2 := hb.size
    (try simp at hz2)
    clear hb
    have nA0 : w1.heap.size < w2.heap.size := by omega
    have nB0 : ¬ w1.heap.size = w2.heap.size := by omega
    have nC0 : ¬ w2.heap.size = w1.heap.size := by omega
    have nA1 : w1.heap.size + 1 < w2.heap.size := by omega
    have nB1 : ¬ w1.heap.size + 1 = w2.heap.size := by omega
    have nC1 : ¬ w2.heap.size = w1.heap.size + 1 := by omega
    go_wp2_with (first | ((with_reducible refine wpList_load_mid ?kl31 47 ?kl3x ?kl32 (w1.heap.size) 0 ?kl33 [.int .i64 a.x.re, .int .i64 a.x.im, .int .i64 a.x.den, .int .i64 a.y.re, .int .i64 a.y.im, .int .i64 a.y.den] ?kl3d ?kl34 ?kl35 ?kl36 ?kl37 ?kl38); (case kl32 => rfl); (case kl31 => rfl); (case kl33 => rfl); (case kl34 => (exact (World.rangeAt_alloc Ha.out _))); (case kl35 => exact Tryd.underlying47); (case kl36 => rfl); (case kl37 => kernel_rfl)) | ((with_reducible refine wpList_load_mid ?kl41 23 ?kl4x ?kl42 (w1.heap.size + 1) 0 ?kl43 [.int .i64 c.re, .int .i64 c.im, .int .i64 c.den] ?kl4d ?kl44 ?kl45 ?kl46 ?kl47 ?kl48); (case kl42 => rfl); (case kl41 => rfl); (case kl43 => rfl); (case kl44 => (exact (World.rangeAt_alloc Hc.out _))); (case kl45 => exact Tryd.underlying23); (case kl46 => rfl); (case kl47 => kernel_rfl)))
    refine (sjtim_any a c _).mono ?_
    rintro e w3 ho
    rw [HG.out] at ho
    obtain ⟨rfl, hb⟩ : e = .returned (.tuple #[.agg #[.int .i64 j2z.x.re, .int .i64 j2z.x.im, .int .i64 j2z.x.den, .int .i64 j2z.y.re, .int .i64 j2z.y.im, .int .i64 j2z.y.den], .bool false]) ∧ Below _ _ _ := ho.fn
    clear ho
    have HB := Lib.hid (show Below w.heap.size w w3 from HB.out.trans ((show Below _ _ _ from ((Below.refl _ _).alloc (by first | omega | (simp; done) | (simp <;> omega)) _)).trans (hb.mono (by first | omega | (simp <;> omega)))))
    have Ha : Hid (w3.rangeAt (w1.heap.size) 0 [.int .i64 a.x.re, .int .i64 a.x.im, .int .i64 a.x.den, .int .i64 a.y.re, .int .i64 a.y.im, .int .i64 a.y.den]) := rangeAt_below (World.rangeAt_alloc Ha.out _) hb (by first | omega | (simp; done) | (simp <;> omega))
    have Hc : Hid (w3.rangeAt (w1.heap.size + 1) 0 [.int .i64 c.re, .int .i64 c.im, .int .i64 c.den]) := rangeAt_below (World.rangeAt_alloc Hc.out _) hb (by first | omega | (simp; done) | (simp <;> omega))
    have Ho : Hid (w3.rangeAt (w2.heap.size) 0 [.int .i64 j2z.x.re, .int .i64 j2z.x.im, .int .i64 j2z.x.den, .int .i64 j2z.y.re, .int .i64 j2z.y.im, .int .i64 j2z.y.den]) := rangeAt_below (rangeAt_new _ _ _) hb (by first | omega | (simp; done) | (simp <;> omega))
    have hz3 := hb.size
    (try simp at hz3)
    clear hb
    have nA0 : w1.heap.size < w3.heap.size := by omega
    have nB0 : ¬ w1.heap.size = w3.heap.size := by omega
    have nC0 : ¬ w3.heap.size = w1.heap.size := by omega
    have nA1 : w1.heap.size + 1 < w3.heap.size := by omega
    have nB1 : ¬ w1.heap.size + 1 = w3.heap.size := by omega
    have nC1 : ¬ w3.heap.size = w1.heap.size + 1 := by omega
    have nA2 : w2.heap.size < w3.heap.size := by omega
    have nB2 : ¬ w2.heap.size = w3.heap.size := by omega
    have nC2 : ¬ w3.heap.size = w2.heap.size := by omega
    have zo_0 : w3.cell? ⟨w2.heap.size, 0, none⟩ = some (.int .i64 j2z.x.re) := by have := Ho.out 0 _ rfl; rwa [Nat.zero_add] at this
    have zo_1 : w3.cell? ⟨w2.heap.size, 1, none⟩ = some (.int .i64 j2z.x.im) := by have := Ho.out 1 _ rfl; rwa [Nat.zero_add] at this
    have zo_2 : w3.cell? ⟨w2.heap.size, 2, none⟩ = some (.int .i64 j2z.x.den) := by have := Ho.out 2 _ rfl; rwa [Nat.zero_add] at this
    have zo_3 : w3.cell? ⟨w2.heap.size, 3, none⟩ = some (.int .i64 j2z.y.re) := by have := Ho.out 3 _ rfl; rwa [Nat.zero_add] at this
    have zo_4 : w3.cell? ⟨w2.heap.size, 4, none⟩ = some (.int .i64 j2z.y.im) := by have := Ho.out 4 _ rfl; rwa [Nat.zero_add] at this
    have zo_5 : w3.cell? ⟨w2.heap.size, 5, none⟩ = some (.int .i64 j2z.y.den) := by have := Ho.out 5 _ rfl; rwa [Nat.zero_add] at this
    go_wp2_with fail
    go_ret
    exact ⟨rfl, (by (repeat' first | (with_reducible exact HB.out) | with_reducible refine setCells_below _ _ _ ?_ (by first | omega | (simp <;> omega)) | with_reducible refine Below.setCell ?_ (by show _ ≤ _; first | omega | (simp <;> omega) | simp) _ | with_reducible refine Below.alloc ?_ (by first | omega | (simp <;> omega)) _ | with_reducible apply Below.drew | with_reducible refine below_drewN ?_ _))⟩
  · skip
    obtain ⟨o, hw⟩ : ∃ z, z = (jTim a c).1 := ⟨_, rfl⟩
    have hg2 : jTim a c = (o, true) := by rw [hw, ← hg]
    have hla := fun z p q => law_jtim (c := c) hg2 z p q
    have hlp := fun n u v w h1 h2 h3 h4 => law_jtpow (n := n) (u := u) (v := v) (w := w) hg2 h1 h2 h3 h4
    have HG := Lib.hid hg2
    have HLA := Lib.hid hla
    have HLP := Lib.hid hlp
    clear hg hw hg2 hla hlp
    go_wp2_with (first | ((with_reducible refine wpList_load_mid ?kl51 47 ?kl5x ?kl52 (w1.heap.size) 0 ?kl53 [.int .i64 a.x.re, .int .i64 a.x.im, .int .i64 a.x.den, .int .i64 a.y.re, .int .i64 a.y.im, .int .i64 a.y.den] ?kl5d ?kl54 ?kl55 ?kl56 ?kl57 ?kl58); (case kl52 => rfl); (case kl51 => rfl); (case kl53 => rfl); (case kl54 => (exact (World.rangeAt_alloc (rangeAt_new _ _ _) _))); (case kl55 => exact Tryd.underlying47); (case kl56 => rfl); (case kl57 => kernel_rfl)) | ((with_reducible refine wpList_load_mid ?kl61 23 ?kl6x ?kl62 (w1.heap.size + 1) 0 ?kl63 [.int .i64 c.re, .int .i64 c.im, .int .i64 c.den] ?kl6d ?kl64 ?kl65 ?kl66 ?kl67 ?kl68); (case kl62 => rfl); (case kl61 => rfl); (case kl63 => rfl); (case kl64 => (exact (rangeAt_nw (by simp)))); (case kl65 => exact Tryd.underlying23); (case kl66 => rfl); (case kl67 => kernel_rfl)))
    refine (ijtim a c _).mono ?_
    rintro e w2 ho
    rw [HG.out] at ho
    obtain ⟨rfl, hb⟩ : e = .returned (.tuple #[.agg #[.int .i64 o.x.re, .int .i64 o.x.im, .int .i64 o.x.den, .int .i64 o.y.re, .int .i64 o.y.im, .int .i64 o.y.den], .bool true]) ∧ Below _ _ _ := ho.fn
    clear ho
    have HB := Lib.hid (show Below w.heap.size w w2 from HB.out.trans ((show Below _ _ _ from (((Below.refl _ _).alloc (by first | omega | (simp; done) | (simp <;> omega)) _).alloc (by first | omega | (simp; done) | (simp <;> omega)) _)).trans (hb.mono (by first | omega | (simp <;> omega)))))
    have Ha : Hid (w2.rangeAt (w1.heap.size) 0 [.int .i64 a.x.re, .int .i64 a.x.im, .int .i64 a.x.den, .int .i64 a.y.re, .int .i64 a.y.im, .int .i64 a.y.den]) := rangeAt_below (World.rangeAt_alloc (rangeAt_new _ _ _) _) hb (by first | omega | (simp; done) | (simp <;> omega))
    have Hc : Hid (w2.rangeAt (w1.heap.size + 1) 0 [.int .i64 c.re, .int .i64 c.im, .int .i64 c.den]) := rangeAt_below (rangeAt_nw (by simp)) hb (by first | omega | (simp; done) | (simp <;> omega))
    have hz2 := hb.size
    (try simp at hz2)
    clear hb
    have nA0 : w1.heap.size < w2.heap.size := by omega
    have nB0 : ¬ w1.heap.size = w2.heap.size := by omega
    have nC0 : ¬ w2.heap.size = w1.heap.size := by omega
    have nA1 : w1.heap.size + 1 < w2.heap.size := by omega
    have nB1 : ¬ w1.heap.size + 1 = w2.heap.size := by omega
    have nC1 : ¬ w2.heap.size = w1.heap.size + 1 := by omega
    go_wp2_with (first | ((with_reducible refine wpList_load_mid ?kl71 47 ?kl7x ?kl72 (w1.heap.size) 0 ?kl73 [.int .i64 a.x.re, .int .i64 a.x.im, .int .i64 a.x.den, .int .i64 a.y.re, .int .i64 a.y.im, .int .i64 a.y.den] ?kl7d ?kl74 ?kl75 ?kl76 ?kl77 ?kl78); (case kl72 => rfl); (case kl71 => rfl); (case kl73 => rfl); (case kl74 => (exact (World.rangeAt_alloc Ha.out _))); (case kl75 => exact Tryd.underlying47); (case kl76 => rfl); (case kl77 => kernel_rfl)) | ((with_reducible refine wpList_load_mid ?kl81 23 ?kl8x ?kl82 (w1.heap.size + 1) 0 ?kl83 [.int .i64 c.re, .int .i64 c.im, .int .i64 c.den] ?kl8d ?kl84 ?kl85 ?kl86 ?kl87 ?kl88); (case kl82 => rfl); (case kl81 => rfl); (case kl83 => rfl); (case kl84 => (exact (World.rangeAt_alloc Hc.out _))); (case kl85 => exact Tryd.underlying23); (case kl86 => rfl); (case kl87 => kernel_rfl)))
    refine (sjtim_any a c _).mono ?_
    rintro e w3 ho
    rw [HG.out] at ho
    obtain ⟨rfl, hb⟩ : e = .returned (.tuple #[.agg #[.int .i64 o.x.re, .int .i64 o.x.im, .int .i64 o.x.den, .int .i64 o.y.re, .int .i64 o.y.im, .int .i64 o.y.den], .bool true]) ∧ Below _ _ _ := ho.fn
    clear ho
    have HB := Lib.hid (show Below w.heap.size w w3 from HB.out.trans ((show Below _ _ _ from ((Below.refl _ _).alloc (by first | omega | (simp; done) | (simp <;> omega)) _)).trans (hb.mono (by first | omega | (simp <;> omega)))))
    have Ha : Hid (w3.rangeAt (w1.heap.size) 0 [.int .i64 a.x.re, .int .i64 a.x.im, .int .i64 a.x.den, .int .i64 a.y.re, .int .i64 a.y.im, .int .i64 a.y.den]) := rangeAt_below (World.rangeAt_alloc Ha.out _) hb (by first | omega | (simp; done) | (simp <;> omega))
    have Hc : Hid (w3.rangeAt (w1.heap.size + 1) 0 [.int .i64 c.re, .int .i64 c.im, .int .i64 c.den]) := rangeAt_below (World.rangeAt_alloc Hc.out _) hb (by first | omega | (simp; done) | (simp <;> omega))
    have Ho : Hid (w3.rangeAt (w2.heap.size) 0 [.int .i64 o.x.re, .int .i64 o.x.im, .int .i64 o.x.den, .int .i64 o.y.re, .int .i64 o.y.im, .int .i64 o.y.den]) := rangeAt_below (rangeAt_new _ _ _) hb (by first | omega | (simp; done) | (simp <;> omega))
    have hz3 := hb.size
    (try simp at hz3)
    clear hb
    have nA0 : w1.heap.size < w3.heap.size := by omega
    have nB0 : ¬ w1.heap.size = w3.heap.size := by omega
    have nC0 : ¬ w3.heap.size = w1.heap.size := by omega
    have nA1 : w1.heap.size + 1 < w3.heap.size := by omega
    have nB1 : ¬ w1.heap.size + 1 = w3.heap.size := by omega
    have nC1 : ¬ w3.heap.size = w1.heap.size + 1 := by omega
    have nA2 : w2.heap.size < w3.heap.size := by omega
    have nB2 : ¬ w2.heap.size = w3.heap.size := by omega
    have nC2 : ¬ w3.heap.size = w2.heap.size := by omega
    have za_0 : w3.cell? ⟨w1.heap.size, 0, none⟩ = some (.int .i64 a.x.re) := by have := Ha.out 0 _ rfl; rwa [Nat.zero_add] at this
    have za_1 : w3.cell? ⟨w1.heap.size, 1, none⟩ = some (.int .i64 a.x.im) := by have := Ha.out 1 _ rfl; rwa [Nat.zero_add] at this
    have za_2 : w3.cell? ⟨w1.heap.size, 2, none⟩ = some (.int .i64 a.x.den) := by have := Ha.out 2 _ rfl; rwa [Nat.zero_add] at this
    have za_3 : w3.cell? ⟨w1.heap.size, 3, none⟩ = some (.int .i64 a.y.re) := by have := Ha.out 3 _ rfl; rwa [Nat.zero_add] at this
    have za_4 : w3.cell? ⟨w1.heap.size, 4, none⟩ = some (.int .i64 a.y.im) := by have := Ha.out 4 _ rfl; rwa [Nat.zero_add] at this
    have za_5 : w3.cell? ⟨w1.heap.size, 5, none⟩ = some (.int .i64 a.y.den) := by have := Ha.out 5 _ rfl; rwa [Nat.zero_add] at this
    have zo_0 : w3.cell? ⟨w2.heap.size, 0, none⟩ = some (.int .i64 o.x.re) := by have := Ho.out 0 _ rfl; rwa [Nat.zero_add] at this
    have zo_1 : w3.cell? ⟨w2.heap.size, 1, none⟩ = some (.int .i64 o.x.im) := by have := Ho.out 1 _ rfl; rwa [Nat.zero_add] at this
    have zo_2 : w3.cell? ⟨w2.heap.size, 2, none⟩ = some (.int .i64 o.x.den) := by have := Ho.out 2 _ rfl; rwa [Nat.zero_add] at this
    have zo_3 : w3.cell? ⟨w2.heap.size, 3, none⟩ = some (.int .i64 o.y.re) := by have := Ho.out 3 _ rfl; rwa [Nat.zero_add] at this
    have zo_4 : w3.cell? ⟨w2.heap.size, 4, none⟩ = some (.int .i64 o.y.im) := by have := Ho.out 4 _ rfl; rwa [Nat.zero_add] at this
    have zo_5 : w3.cell? ⟨w2.heap.size, 5, none⟩ = some (.int .i64 o.y.den) := by have := Ho.out 5 _ rfl; rwa [Nat.zero_add] at this
    obtain ⟨t1, ht1⟩ : ∃ zf, zf = (fTimes a.x o.y).1 := ⟨_, rfl⟩
    obtain ⟨b1, hb1⟩ : ∃ zb, zb = (fTimes a.x o.y).2 := ⟨_, rfl⟩
    have HT1 : Hid (fTimes a.x o.y = (t1, b1)) := by show _ = _; rw [ht1, hb1]
    have HT1b := Lib.hid hb1
    clear ht1 hb1
    go_wp2_with fail
    refine (times_fr a.x o.y _).mono ?_
    rintro e w4 ho
    rw [HT1.out] at ho
    obtain ⟨rfl, hb⟩ : e = .returned (.tuple #[.agg #[.int .i64 t1.re, .int .i64 t1.im, .int .i64 t1.den], .bool b1]) ∧ Below _ _ _ := ho.fn
    clear ho
    have HB := Lib.hid (show Below w.heap.size w w4 from HB.out.trans ((show Below _ _ _ from ((Below.refl _ _).alloc (by first | omega | (simp; done) | (simp <;> omega)) _)).trans (hb.mono (by first | omega | (simp <;> omega)))))
    have Ha : Hid (w4.rangeAt (w1.heap.size) 0 [.int .i64 a.x.re, .int .i64 a.x.im, .int .i64 a.x.den, .int .i64 a.y.re, .int .i64 a.y.im, .int .i64 a.y.den]) := rangeAt_below (World.rangeAt_alloc Ha.out _) hb (by first | omega | (simp; done) | (simp <;> omega))
    have Hc : Hid (w4.rangeAt (w1.heap.size + 1) 0 [.int .i64 c.re, .int .i64 c.im, .int .i64 c.den]) := rangeAt_below (World.rangeAt_alloc Hc.out _) hb (by first | omega | (simp; done) | (simp <;> omega))
    have Ho : Hid (w4.rangeAt (w2.heap.size) 0 [.int .i64 o.x.re, .int .i64 o.x.im, .int .i64 o.x.den, .int .i64 o.y.re, .int .i64 o.y.im, .int .i64 o.y.den]) := rangeAt_below (World.rangeAt_alloc Ho.out _) hb (by first | omega | (simp; done) | (simp <;> omega))
    have Hqq : Hid (w4.rangeAt (w3.heap.size) 0 [.int .i64 o.x.re, .int .i64 o.x.im, .int .i64 o.x.den, .int .i64 o.y.re, .int .i64 o.y.im, .int .i64 o.y.den]) := rangeAt_below (rangeAt_new _ _ _) hb (by first | omega | (simp; done) | (simp <;> omega))
    have hz4 := hb.size
    (try simp at hz4)
    clear hb
    have nA0 : w1.heap.size < w4.heap.size := by omega
    have nB0 : ¬ w1.heap.size = w4.heap.size := by omega
    have nC0 : ¬ w4.heap.size = w1.heap.size := by omega
    have nA1 : w1.heap.size + 1 < w4.heap.size := by omega
    have nB1 : ¬ w1.heap.size + 1 = w4.heap.size := by omega
    have nC1 : ¬ w4.heap.size = w1.heap.size + 1 := by omega
    have nA2 : w2.heap.size < w4.heap.size := by omega
    have nB2 : ¬ w2.heap.size = w4.heap.size := by omega
    have nC2 : ¬ w4.heap.size = w2.heap.size := by omega
    have nA3 : w3.heap.size < w4.heap.size := by omega
    have nB3 : ¬ w3.heap.size = w4.heap.size := by omega
    have nC3 : ¬ w4.heap.size = w3.heap.size := by omega
    have za_0 : w4.cell? ⟨w1.heap.size, 0, none⟩ = some (.int .i64 a.x.re) := by have := Ha.out 0 _ rfl; rwa [Nat.zero_add] at this
    have za_1 : w4.cell? ⟨w1.heap.size, 1, none⟩ = some (.int .i64 a.x.im) := by have := Ha.out 1 _ rfl; rwa [Nat.zero_add] at this
    have za_2 : w4.cell? ⟨w1.heap.size, 2, none⟩ = some (.int .i64 a.x.den) := by have := Ha.out 2 _ rfl; rwa [Nat.zero_add] at this
    have za_3 : w4.cell? ⟨w1.heap.size, 3, none⟩ = some (.int .i64 a.y.re) := by have := Ha.out 3 _ rfl; rwa [Nat.zero_add] at this
    have za_4 : w4.cell? ⟨w1.heap.size, 4, none⟩ = some (.int .i64 a.y.im) := by have := Ha.out 4 _ rfl; rwa [Nat.zero_add] at this
    have za_5 : w4.cell? ⟨w1.heap.size, 5, none⟩ = some (.int .i64 a.y.den) := by have := Ha.out 5 _ rfl; rwa [Nat.zero_add] at this
    have zo_0 : w4.cell? ⟨w2.heap.size, 0, none⟩ = some (.int .i64 o.x.re) := by have := Ho.out 0 _ rfl; rwa [Nat.zero_add] at this
    have zo_1 : w4.cell? ⟨w2.heap.size, 1, none⟩ = some (.int .i64 o.x.im) := by have := Ho.out 1 _ rfl; rwa [Nat.zero_add] at this
    have zo_2 : w4.cell? ⟨w2.heap.size, 2, none⟩ = some (.int .i64 o.x.den) := by have := Ho.out 2 _ rfl; rwa [Nat.zero_add] at this
    have zo_3 : w4.cell? ⟨w2.heap.size, 3, none⟩ = some (.int .i64 o.y.re) := by have := Ho.out 3 _ rfl; rwa [Nat.zero_add] at this
    have zo_4 : w4.cell? ⟨w2.heap.size, 4, none⟩ = some (.int .i64 o.y.im) := by have := Ho.out 4 _ rfl; rwa [Nat.zero_add] at this
    have zo_5 : w4.cell? ⟨w2.heap.size, 5, none⟩ = some (.int .i64 o.y.den) := by have := Ho.out 5 _ rfl; rwa [Nat.zero_add] at this
    obtain ⟨t2, ht2⟩ : ∃ zf, zf = (fTimes a.y o.x).1 := ⟨_, rfl⟩
    obtain ⟨b2, hb2⟩ : ∃ zb, zb = (fTimes a.y o.x).2 := ⟨_, rfl⟩
    have HT2 : Hid (fTimes a.y o.x = (t2, b2)) := by show _ = _; rw [ht2, hb2]
    have HT2b := Lib.hid hb2
    clear ht2 hb2
    go_wp2_with fail
    refine (times_fr a.y o.x _).mono ?_
    rintro e w5 ho
    rw [HT2.out] at ho
    obtain ⟨rfl, hb⟩ : e = .returned (.tuple #[.agg #[.int .i64 t2.re, .int .i64 t2.im, .int .i64 t2.den], .bool b2]) ∧ Below _ _ _ := ho.fn
    clear ho
    have HB := Lib.hid (show Below w.heap.size w w5 from HB.out.trans ((show Below _ _ _ from ((Below.refl _ _).alloc (by first | omega | (simp; done) | (simp <;> omega)) _)).trans (hb.mono (by first | omega | (simp <;> omega)))))
    have Ha : Hid (w5.rangeAt (w1.heap.size) 0 [.int .i64 a.x.re, .int .i64 a.x.im, .int .i64 a.x.den, .int .i64 a.y.re, .int .i64 a.y.im, .int .i64 a.y.den]) := rangeAt_below (World.rangeAt_alloc Ha.out _) hb (by first | omega | (simp; done) | (simp <;> omega))
    have Hc : Hid (w5.rangeAt (w1.heap.size + 1) 0 [.int .i64 c.re, .int .i64 c.im, .int .i64 c.den]) := rangeAt_below (World.rangeAt_alloc Hc.out _) hb (by first | omega | (simp; done) | (simp <;> omega))
    have Ho : Hid (w5.rangeAt (w2.heap.size) 0 [.int .i64 o.x.re, .int .i64 o.x.im, .int .i64 o.x.den, .int .i64 o.y.re, .int .i64 o.y.im, .int .i64 o.y.den]) := rangeAt_below (World.rangeAt_alloc Ho.out _) hb (by first | omega | (simp; done) | (simp <;> omega))
    have Hqq : Hid (w5.rangeAt (w3.heap.size) 0 [.int .i64 o.x.re, .int .i64 o.x.im, .int .i64 o.x.den, .int .i64 o.y.re, .int .i64 o.y.im, .int .i64 o.y.den]) := rangeAt_below (World.rangeAt_alloc Hqq.out _) hb (by first | omega | (simp; done) | (simp <;> omega))
    have Ht1 : Hid (w5.rangeAt (w4.heap.size) 0 [.int .i64 t1.re, .int .i64 t1.im, .int .i64 t1.den]) := rangeAt_below (rangeAt_new _ _ _) hb (by first | omega | (simp; done) | (simp <;> omega))
    have hz5 := hb.size
    (try simp at hz5)
    clear hb
    have nA0 : w1.heap.size < w5.heap.size := by omega
    have nB0 : ¬ w1.heap.size = w5.heap.size := by omega
    have nC0 : ¬ w5.heap.size = w1.heap.size := by omega
    have nA1 : w1.heap.size + 1 < w5.heap.size := by omega
    have nB1 : ¬ w1.heap.size + 1 = w5.heap.size := by omega
    have nC1 : ¬ w5.heap.size = w1.heap.size + 1 := by omega
    have nA2 : w2.heap.size < w5.heap.size := by omega
    have nB2 : ¬ w2.heap.size = w5.heap.size := by omega
    have nC2 : ¬ w5.heap.size = w2.heap.size := by omega
    have nA3 : w3.heap.size < w5.heap.size := by omega
    have nB3 : ¬ w3.heap.size = w5.heap.size := by omega
    have nC3 : ¬ w5.heap.size = w3.heap.size := by omega
    have nA4 : w4.heap.size < w5.heap.size := by omega
    have nB4 : ¬ w4.heap.size = w5.heap.size := by omega
    have nC4 : ¬ w5.heap.size = w4.heap.size := by omega
    have zc_0 : w5.cell? ⟨w1.heap.size + 1, 0, none⟩ = some (.int .i64 c.re) := by have := Hc.out 0 _ rfl; rwa [Nat.zero_add] at this
    have zc_1 : w5.cell? ⟨w1.heap.size + 1, 1, none⟩ = some (.int .i64 c.im) := by have := Hc.out 1 _ rfl; rwa [Nat.zero_add] at this
    have zc_2 : w5.cell? ⟨w1.heap.size + 1, 2, none⟩ = some (.int .i64 c.den) := by have := Hc.out 2 _ rfl; rwa [Nat.zero_add] at this
    obtain ⟨zr, hzr⟩ : ∃ z, z = (c.re == 0) := ⟨_, rfl⟩
    obtain ⟨zi, hzi⟩ : ∃ z, z = (c.im == 0) := ⟨_, rfl⟩
    have e1 := hzr.symm
    have e2 := hzi.symm
    have HZZ : Hid ((zr && zi) = false → ¬ (c.re = 0 ∧ c.im = 0)) := fun hxy ⟨k1, k2⟩ => by rw [hzr, hzi, k1, k2] at hxy; simp at hxy
    clear hzr hzi
    go_upto_region 10 with fail
    go_cut [13] (fun s13 wx => s13 = .bool (zr && zi) ∧ wx = (w5.alloc (.cells #[.int .i64 t2.re, .int .i64 t2.im, .int .i64 t2.den] 23)))
    case first =>
      cases zr <;> cases zi
      all_goals (go_wp2_with fail; go_meet; exact ⟨rfl, rfl⟩)
    case rest =>
    obtain ⟨rfl, rfl⟩ := hcut
    clear e1 e2
    obtain ⟨zz, hzz⟩ : ∃ z, z = (zr && zi) := ⟨_, rfl⟩
    rw [← hzz] at HZZ
    rw [← hzz]
    clear hzz
    obtain ⟨n, hn⟩ : ∃ zf, zf = (jPow o).1 := ⟨_, rfl⟩
    obtain ⟨b3, hb3⟩ : ∃ zb, zb = (jPow o).2 := ⟨_, rfl⟩
    have HN : Hid (jPow o = (n, b3)) := by show _ = _; rw [hn, hb3]
    have HNb := Lib.hid hb3
    clear hn hb3
    go_wp2_with (first | ((with_reducible refine wpList_load_mid ?kl91 47 ?kl9x ?kl92 (w2.heap.size) 0 ?kl93 [.int .i64 o.x.re, .int .i64 o.x.im, .int .i64 o.x.den, .int .i64 o.y.re, .int .i64 o.y.im, .int .i64 o.y.den] ?kl9d ?kl94 ?kl95 ?kl96 ?kl97 ?kl98); (case kl92 => rfl); (case kl91 => rfl); (case kl93 => rfl); (case kl94 => (exact (World.rangeAt_alloc Ho.out _))); (case kl95 => exact Tryd.underlying47); (case kl96 => rfl); (case kl97 => kernel_rfl)))
    refine (ijpow o _).mono ?_
    rintro e w6 ho
    rw [HN.out] at ho
    obtain ⟨rfl, hb⟩ : e = .returned (.tuple #[.agg #[.int .i64 n.re, .int .i64 n.im, .int .i64 n.den], .bool b3]) ∧ Below _ _ _ := ho.fn
    clear ho
    have HB := Lib.hid (show Below w.heap.size w w6 from HB.out.trans ((show Below _ _ _ from ((Below.refl _ _).alloc (by first | omega | (simp; done) | (simp <;> omega)) _)).trans (hb.mono (by first | omega | (simp <;> omega)))))
    have Ha : Hid (w6.rangeAt (w1.heap.size) 0 [.int .i64 a.x.re, .int .i64 a.x.im, .int .i64 a.x.den, .int .i64 a.y.re, .int .i64 a.y.im, .int .i64 a.y.den]) := rangeAt_below (World.rangeAt_alloc Ha.out _) hb (by first | omega | (simp; done) | (simp <;> omega))
    have Hc : Hid (w6.rangeAt (w1.heap.size + 1) 0 [.int .i64 c.re, .int .i64 c.im, .int .i64 c.den]) := rangeAt_below (World.rangeAt_alloc Hc.out _) hb (by first | omega | (simp; done) | (simp <;> omega))
    have Ho : Hid (w6.rangeAt (w2.heap.size) 0 [.int .i64 o.x.re, .int .i64 o.x.im, .int .i64 o.x.den, .int .i64 o.y.re, .int .i64 o.y.im, .int .i64 o.y.den]) := rangeAt_below (World.rangeAt_alloc Ho.out _) hb (by first | omega | (simp; done) | (simp <;> omega))
    have Hqq : Hid (w6.rangeAt (w3.heap.size) 0 [.int .i64 o.x.re, .int .i64 o.x.im, .int .i64 o.x.den, .int .i64 o.y.re, .int .i64 o.y.im, .int .i64 o.y.den]) := rangeAt_below (World.rangeAt_alloc Hqq.out _) hb (by first | omega | (simp; done) | (simp <;> omega))
    have Ht1 : Hid (w6.rangeAt (w4.heap.size) 0 [.int .i64 t1.re, .int .i64 t1.im, .int .i64 t1.den]) := rangeAt_below (World.rangeAt_alloc Ht1.out _) hb (by first | omega | (simp; done) | (simp <;> omega))
    have Ht2 : Hid (w6.rangeAt (w5.heap.size) 0 [.int .i64 t2.re, .int .i64 t2.im, .int .i64 t2.den]) := rangeAt_below (rangeAt_new _ _ _) hb (by first | omega | (simp; done) | (simp <;> omega))
    have hz6 := hb.size
    (try simp at hz6)
    clear hb
    have nA0 : w1.heap.size < w6.heap.size := by omega
    have nB0 : ¬ w1.heap.size = w6.heap.size := by omega
    have nC0 : ¬ w6.heap.size = w1.heap.size := by omega
    have nA1 : w1.heap.size + 1 < w6.heap.size := by omega
    have nB1 : ¬ w1.heap.size + 1 = w6.heap.size := by omega
    have nC1 : ¬ w6.heap.size = w1.heap.size + 1 := by omega
    have nA2 : w2.heap.size < w6.heap.size := by omega
    have nB2 : ¬ w2.heap.size = w6.heap.size := by omega
    have nC2 : ¬ w6.heap.size = w2.heap.size := by omega
    have nA3 : w3.heap.size < w6.heap.size := by omega
    have nB3 : ¬ w3.heap.size = w6.heap.size := by omega
    have nC3 : ¬ w6.heap.size = w3.heap.size := by omega
    have nA4 : w4.heap.size < w6.heap.size := by omega
    have nB4 : ¬ w4.heap.size = w6.heap.size := by omega
    have nC4 : ¬ w6.heap.size = w4.heap.size := by omega
    have nA5 : w5.heap.size < w6.heap.size := by omega
    have nB5 : ¬ w5.heap.size = w6.heap.size := by omega
    have nC5 : ¬ w6.heap.size = w5.heap.size := by omega
    obtain ⟨u, hu⟩ : ∃ zf, zf = (jPow a).1 := ⟨_, rfl⟩
    obtain ⟨b4, hb4⟩ : ∃ zb, zb = (jPow a).2 := ⟨_, rfl⟩
    have HU : Hid (jPow a = (u, b4)) := by show _ = _; rw [hu, hb4]
    have HUb := Lib.hid hb4
    clear hu hb4
    go_wp2_with (first | ((with_reducible refine wpList_load_mid ?kl101 47 ?kl10x ?kl102 (w1.heap.size) 0 ?kl103 [.int .i64 a.x.re, .int .i64 a.x.im, .int .i64 a.x.den, .int .i64 a.y.re, .int .i64 a.y.im, .int .i64 a.y.den] ?kl10d ?kl104 ?kl105 ?kl106 ?kl107 ?kl108); (case kl102 => rfl); (case kl101 => rfl); (case kl103 => rfl); (case kl104 => (exact (World.rangeAt_alloc Ha.out _))); (case kl105 => exact Tryd.underlying47); (case kl106 => rfl); (case kl107 => kernel_rfl)))
    refine (ijpow a _).mono ?_
    rintro e w7 ho
    rw [HU.out] at ho
    obtain ⟨rfl, hb⟩ : e = .returned (.tuple #[.agg #[.int .i64 u.re, .int .i64 u.im, .int .i64 u.den], .bool b4]) ∧ Below _ _ _ := ho.fn
    clear ho
    have HB := Lib.hid (show Below w.heap.size w w7 from HB.out.trans ((show Below _ _ _ from ((Below.refl _ _).alloc (by first | omega | (simp; done) | (simp <;> omega)) _)).trans (hb.mono (by first | omega | (simp <;> omega)))))
    have Ha : Hid (w7.rangeAt (w1.heap.size) 0 [.int .i64 a.x.re, .int .i64 a.x.im, .int .i64 a.x.den, .int .i64 a.y.re, .int .i64 a.y.im, .int .i64 a.y.den]) := rangeAt_below (World.rangeAt_alloc Ha.out _) hb (by first | omega | (simp; done) | (simp <;> omega))
    have Hc : Hid (w7.rangeAt (w1.heap.size + 1) 0 [.int .i64 c.re, .int .i64 c.im, .int .i64 c.den]) := rangeAt_below (World.rangeAt_alloc Hc.out _) hb (by first | omega | (simp; done) | (simp <;> omega))
    have Ho : Hid (w7.rangeAt (w2.heap.size) 0 [.int .i64 o.x.re, .int .i64 o.x.im, .int .i64 o.x.den, .int .i64 o.y.re, .int .i64 o.y.im, .int .i64 o.y.den]) := rangeAt_below (World.rangeAt_alloc Ho.out _) hb (by first | omega | (simp; done) | (simp <;> omega))
    have Hqq : Hid (w7.rangeAt (w3.heap.size) 0 [.int .i64 o.x.re, .int .i64 o.x.im, .int .i64 o.x.den, .int .i64 o.y.re, .int .i64 o.y.im, .int .i64 o.y.den]) := rangeAt_below (World.rangeAt_alloc Hqq.out _) hb (by first | omega | (simp; done) | (simp <;> omega))
    have Ht1 : Hid (w7.rangeAt (w4.heap.size) 0 [.int .i64 t1.re, .int .i64 t1.im, .int .i64 t1.den]) := rangeAt_below (World.rangeAt_alloc Ht1.out _) hb (by first | omega | (simp; done) | (simp <;> omega))
    have Ht2 : Hid (w7.rangeAt (w5.heap.size) 0 [.int .i64 t2.re, .int .i64 t2.im, .int .i64 t2.den]) := rangeAt_below (World.rangeAt_alloc Ht2.out _) hb (by first | omega | (simp; done) | (simp <;> omega))
    have Hn : Hid (w7.rangeAt (w6.heap.size) 0 [.int .i64 n.re, .int .i64 n.im, .int .i64 n.den]) := rangeAt_below (rangeAt_new _ _ _) hb (by first | omega | (simp; done) | (simp <;> omega))
    have hz7 := hb.size
    (try simp at hz7)
    clear hb
    have nA0 : w1.heap.size < w7.heap.size := by omega
    have nB0 : ¬ w1.heap.size = w7.heap.size := by omega
    have nC0 : ¬ w7.heap.size = w1.heap.size := by omega
    have nA1 : w1.heap.size + 1 < w7.heap.size := by omega
    have nB1 : ¬ w1.heap.size + 1 = w7.heap.size := by omega
    have nC1 : ¬ w7.heap.size = w1.heap.size + 1 := by omega
    have nA2 : w2.heap.size < w7.heap.size := by omega
    have nB2 : ¬ w2.heap.size = w7.heap.size := by omega
    have nC2 : ¬ w7.heap.size = w2.heap.size := by omega
    have nA3 : w3.heap.size < w7.heap.size := by omega
    have nB3 : ¬ w3.heap.size = w7.heap.size := by omega
    have nC3 : ¬ w7.heap.size = w3.heap.size := by omega
    have nA4 : w4.heap.size < w7.heap.size := by omega
    have nB4 : ¬ w4.heap.size = w7.heap.size := by omega
    have nC4 : ¬ w7.heap.size = w4.heap.size := by omega
    have nA5 : w5.heap.size < w7.heap.size := by omega
    have nB5 : ¬ w5.heap.size = w7.heap.size := by omega
    have nC5 : ¬ w7.heap.size = w5.heap.size := by omega
    have nA6 : w6.heap.size < w7.heap.size := by omega
    have nB6 : ¬ w6.heap.size = w7.heap.size := by omega
    have nC6 : ¬ w7.heap.size = w6.heap.size := by omega
    obtain ⟨v, hv⟩ : ∃ zf, zf = (fPower c).1 := ⟨_, rfl⟩
    obtain ⟨b5, hb5⟩ : ∃ zb, zb = (fPower c).2 := ⟨_, rfl⟩
    have HV : Hid (fPower c = (v, b5)) := by show _ = _; rw [hv, hb5]
    have HVb := Lib.hid hb5
    clear hv hb5
    go_wp2_with (first | ((with_reducible refine wpList_load_mid ?kl111 23 ?kl11x ?kl112 (w1.heap.size + 1) 0 ?kl113 [.int .i64 c.re, .int .i64 c.im, .int .i64 c.den] ?kl11d ?kl114 ?kl115 ?kl116 ?kl117 ?kl118); (case kl112 => rfl); (case kl111 => rfl); (case kl113 => rfl); (case kl114 => (exact (World.rangeAt_alloc Hc.out _))); (case kl115 => exact Tryd.underlying23); (case kl116 => rfl); (case kl117 => kernel_rfl)))
    refine (power_fr c _).mono ?_
    rintro e w8 ho
    rw [HV.out] at ho
    obtain ⟨rfl, hb⟩ : e = .returned (.tuple #[.agg #[.int .i64 v.re, .int .i64 v.im, .int .i64 v.den], .bool b5]) ∧ Below _ _ _ := ho.fn
    clear ho
    have HB := Lib.hid (show Below w.heap.size w w8 from HB.out.trans ((show Below _ _ _ from ((Below.refl _ _).alloc (by first | omega | (simp; done) | (simp <;> omega)) _)).trans (hb.mono (by first | omega | (simp <;> omega)))))
    have Ha : Hid (w8.rangeAt (w1.heap.size) 0 [.int .i64 a.x.re, .int .i64 a.x.im, .int .i64 a.x.den, .int .i64 a.y.re, .int .i64 a.y.im, .int .i64 a.y.den]) := rangeAt_below (World.rangeAt_alloc Ha.out _) hb (by first | omega | (simp; done) | (simp <;> omega))
    have Hc : Hid (w8.rangeAt (w1.heap.size + 1) 0 [.int .i64 c.re, .int .i64 c.im, .int .i64 c.den]) := rangeAt_below (World.rangeAt_alloc Hc.out _) hb (by first | omega | (simp; done) | (simp <;> omega))
    have Ho : Hid (w8.rangeAt (w2.heap.size) 0 [.int .i64 o.x.re, .int .i64 o.x.im, .int .i64 o.x.den, .int .i64 o.y.re, .int .i64 o.y.im, .int .i64 o.y.den]) := rangeAt_below (World.rangeAt_alloc Ho.out _) hb (by first | omega | (simp; done) | (simp <;> omega))
    have Hqq : Hid (w8.rangeAt (w3.heap.size) 0 [.int .i64 o.x.re, .int .i64 o.x.im, .int .i64 o.x.den, .int .i64 o.y.re, .int .i64 o.y.im, .int .i64 o.y.den]) := rangeAt_below (World.rangeAt_alloc Hqq.out _) hb (by first | omega | (simp; done) | (simp <;> omega))
    have Ht1 : Hid (w8.rangeAt (w4.heap.size) 0 [.int .i64 t1.re, .int .i64 t1.im, .int .i64 t1.den]) := rangeAt_below (World.rangeAt_alloc Ht1.out _) hb (by first | omega | (simp; done) | (simp <;> omega))
    have Ht2 : Hid (w8.rangeAt (w5.heap.size) 0 [.int .i64 t2.re, .int .i64 t2.im, .int .i64 t2.den]) := rangeAt_below (World.rangeAt_alloc Ht2.out _) hb (by first | omega | (simp; done) | (simp <;> omega))
    have Hn : Hid (w8.rangeAt (w6.heap.size) 0 [.int .i64 n.re, .int .i64 n.im, .int .i64 n.den]) := rangeAt_below (World.rangeAt_alloc Hn.out _) hb (by first | omega | (simp; done) | (simp <;> omega))
    have Hu : Hid (w8.rangeAt (w7.heap.size) 0 [.int .i64 u.re, .int .i64 u.im, .int .i64 u.den]) := rangeAt_below (rangeAt_new _ _ _) hb (by first | omega | (simp; done) | (simp <;> omega))
    have hz8 := hb.size
    (try simp at hz8)
    clear hb
    have nA0 : w1.heap.size < w8.heap.size := by omega
    have nB0 : ¬ w1.heap.size = w8.heap.size := by omega
    have nC0 : ¬ w8.heap.size = w1.heap.size := by omega
    have nA1 : w1.heap.size + 1 < w8.heap.size := by omega
    have nB1 : ¬ w1.heap.size + 1 = w8.heap.size := by omega
    have nC1 : ¬ w8.heap.size = w1.heap.size + 1 := by omega
    have nA2 : w2.heap.size < w8.heap.size := by omega
    have nB2 : ¬ w2.heap.size = w8.heap.size := by omega
    have nC2 : ¬ w8.heap.size = w2.heap.size := by omega
    have nA3 : w3.heap.size < w8.heap.size := by omega
    have nB3 : ¬ w3.heap.size = w8.heap.size := by omega
    have nC3 : ¬ w8.heap.size = w3.heap.size := by omega
    have nA4 : w4.heap.size < w8.heap.size := by omega
    have nB4 : ¬ w4.heap.size = w8.heap.size := by omega
    have nC4 : ¬ w8.heap.size = w4.heap.size := by omega
    have nA5 : w5.heap.size < w8.heap.size := by omega
    have nB5 : ¬ w5.heap.size = w8.heap.size := by omega
    have nC5 : ¬ w8.heap.size = w5.heap.size := by omega
    have nA6 : w6.heap.size < w8.heap.size := by omega
    have nB6 : ¬ w6.heap.size = w8.heap.size := by omega
    have nC6 : ¬ w8.heap.size = w6.heap.size := by omega
    have nA7 : w7.heap.size < w8.heap.size := by omega
    have nB7 : ¬ w7.heap.size = w8.heap.size := by omega
    have nC7 : ¬ w8.heap.size = w7.heap.size := by omega
    obtain ⟨s, hs⟩ : ∃ zf, zf = (fTimes u v).1 := ⟨_, rfl⟩
    obtain ⟨b6, hb6⟩ : ∃ zb, zb = (fTimes u v).2 := ⟨_, rfl⟩
    have HS : Hid (fTimes u v = (s, b6)) := by show _ = _; rw [hs, hb6]
    have HSb := Lib.hid hb6
    clear hs hb6
    go_wp2_with (first | ((with_reducible refine wpList_load_mid ?kl121 23 ?kl12x ?kl122 (w7.heap.size) 0 ?kl123 [.int .i64 u.re, .int .i64 u.im, .int .i64 u.den] ?kl12d ?kl124 ?kl125 ?kl126 ?kl127 ?kl128); (case kl122 => rfl); (case kl121 => rfl); (case kl123 => rfl); (case kl124 => (exact (World.rangeAt_alloc Hu.out _))); (case kl125 => exact Tryd.underlying23); (case kl126 => rfl); (case kl127 => kernel_rfl)) | ((with_reducible refine wpList_load_mid ?kl131 23 ?kl13x ?kl132 (w8.heap.size) 0 ?kl133 [.int .i64 v.re, .int .i64 v.im, .int .i64 v.den] ?kl13d ?kl134 ?kl135 ?kl136 ?kl137 ?kl138); (case kl132 => rfl); (case kl131 => rfl); (case kl133 => rfl); (case kl134 => (exact (rangeAt_new _ _ _))); (case kl135 => exact Tryd.underlying23); (case kl136 => rfl); (case kl137 => kernel_rfl)))
    refine (times_fr u v _).mono ?_
    rintro e w9 ho
    rw [HS.out] at ho
    obtain ⟨rfl, hb⟩ : e = .returned (.tuple #[.agg #[.int .i64 s.re, .int .i64 s.im, .int .i64 s.den], .bool b6]) ∧ Below _ _ _ := ho.fn
    clear ho
    have HB := Lib.hid (show Below w.heap.size w w9 from HB.out.trans ((show Below _ _ _ from ((Below.refl _ _).alloc (by first | omega | (simp; done) | (simp <;> omega)) _)).trans (hb.mono (by first | omega | (simp <;> omega)))))
    have Ha : Hid (w9.rangeAt (w1.heap.size) 0 [.int .i64 a.x.re, .int .i64 a.x.im, .int .i64 a.x.den, .int .i64 a.y.re, .int .i64 a.y.im, .int .i64 a.y.den]) := rangeAt_below (World.rangeAt_alloc Ha.out _) hb (by first | omega | (simp; done) | (simp <;> omega))
    have Hc : Hid (w9.rangeAt (w1.heap.size + 1) 0 [.int .i64 c.re, .int .i64 c.im, .int .i64 c.den]) := rangeAt_below (World.rangeAt_alloc Hc.out _) hb (by first | omega | (simp; done) | (simp <;> omega))
    have Ho : Hid (w9.rangeAt (w2.heap.size) 0 [.int .i64 o.x.re, .int .i64 o.x.im, .int .i64 o.x.den, .int .i64 o.y.re, .int .i64 o.y.im, .int .i64 o.y.den]) := rangeAt_below (World.rangeAt_alloc Ho.out _) hb (by first | omega | (simp; done) | (simp <;> omega))
    have Hqq : Hid (w9.rangeAt (w3.heap.size) 0 [.int .i64 o.x.re, .int .i64 o.x.im, .int .i64 o.x.den, .int .i64 o.y.re, .int .i64 o.y.im, .int .i64 o.y.den]) := rangeAt_below (World.rangeAt_alloc Hqq.out _) hb (by first | omega | (simp; done) | (simp <;> omega))
    have Ht1 : Hid (w9.rangeAt (w4.heap.size) 0 [.int .i64 t1.re, .int .i64 t1.im, .int .i64 t1.den]) := rangeAt_below (World.rangeAt_alloc Ht1.out _) hb (by first | omega | (simp; done) | (simp <;> omega))
    have Ht2 : Hid (w9.rangeAt (w5.heap.size) 0 [.int .i64 t2.re, .int .i64 t2.im, .int .i64 t2.den]) := rangeAt_below (World.rangeAt_alloc Ht2.out _) hb (by first | omega | (simp; done) | (simp <;> omega))
    have Hn : Hid (w9.rangeAt (w6.heap.size) 0 [.int .i64 n.re, .int .i64 n.im, .int .i64 n.den]) := rangeAt_below (World.rangeAt_alloc Hn.out _) hb (by first | omega | (simp; done) | (simp <;> omega))
    have Hu : Hid (w9.rangeAt (w7.heap.size) 0 [.int .i64 u.re, .int .i64 u.im, .int .i64 u.den]) := rangeAt_below (World.rangeAt_alloc Hu.out _) hb (by first | omega | (simp; done) | (simp <;> omega))
    have Hv : Hid (w9.rangeAt (w8.heap.size) 0 [.int .i64 v.re, .int .i64 v.im, .int .i64 v.den]) := rangeAt_below (rangeAt_new _ _ _) hb (by first | omega | (simp; done) | (simp <;> omega))
    have hz9 := hb.size
    (try simp at hz9)
    clear hb
    have nA0 : w1.heap.size < w9.heap.size := by omega
    have nB0 : ¬ w1.heap.size = w9.heap.size := by omega
    have nC0 : ¬ w9.heap.size = w1.heap.size := by omega
    have nA1 : w1.heap.size + 1 < w9.heap.size := by omega
    have nB1 : ¬ w1.heap.size + 1 = w9.heap.size := by omega
    have nC1 : ¬ w9.heap.size = w1.heap.size + 1 := by omega
    have nA2 : w2.heap.size < w9.heap.size := by omega
    have nB2 : ¬ w2.heap.size = w9.heap.size := by omega
    have nC2 : ¬ w9.heap.size = w2.heap.size := by omega
    have nA3 : w3.heap.size < w9.heap.size := by omega
    have nB3 : ¬ w3.heap.size = w9.heap.size := by omega
    have nC3 : ¬ w9.heap.size = w3.heap.size := by omega
    have nA4 : w4.heap.size < w9.heap.size := by omega
    have nB4 : ¬ w4.heap.size = w9.heap.size := by omega
    have nC4 : ¬ w9.heap.size = w4.heap.size := by omega
    have nA5 : w5.heap.size < w9.heap.size := by omega
    have nB5 : ¬ w5.heap.size = w9.heap.size := by omega
    have nC5 : ¬ w9.heap.size = w5.heap.size := by omega
    have nA6 : w6.heap.size < w9.heap.size := by omega
    have nB6 : ¬ w6.heap.size = w9.heap.size := by omega
    have nC6 : ¬ w9.heap.size = w6.heap.size := by omega
    have nA7 : w7.heap.size < w9.heap.size := by omega
    have nB7 : ¬ w7.heap.size = w9.heap.size := by omega
    have nC7 : ¬ w9.heap.size = w7.heap.size := by omega
    have nA8 : w8.heap.size < w9.heap.size := by omega
    have nB8 : ¬ w8.heap.size = w9.heap.size := by omega
    have nC8 : ¬ w9.heap.size = w8.heap.size := by omega
    have za_0 : w9.cell? ⟨w1.heap.size, 0, none⟩ = some (.int .i64 a.x.re) := by have := Ha.out 0 _ rfl; rwa [Nat.zero_add] at this
    have za_1 : w9.cell? ⟨w1.heap.size, 1, none⟩ = some (.int .i64 a.x.im) := by have := Ha.out 1 _ rfl; rwa [Nat.zero_add] at this
    have za_2 : w9.cell? ⟨w1.heap.size, 2, none⟩ = some (.int .i64 a.x.den) := by have := Ha.out 2 _ rfl; rwa [Nat.zero_add] at this
    have za_3 : w9.cell? ⟨w1.heap.size, 3, none⟩ = some (.int .i64 a.y.re) := by have := Ha.out 3 _ rfl; rwa [Nat.zero_add] at this
    have za_4 : w9.cell? ⟨w1.heap.size, 4, none⟩ = some (.int .i64 a.y.im) := by have := Ha.out 4 _ rfl; rwa [Nat.zero_add] at this
    have za_5 : w9.cell? ⟨w1.heap.size, 5, none⟩ = some (.int .i64 a.y.den) := by have := Ha.out 5 _ rfl; rwa [Nat.zero_add] at this
    have zo_0 : w9.cell? ⟨w2.heap.size, 0, none⟩ = some (.int .i64 o.x.re) := by have := Ho.out 0 _ rfl; rwa [Nat.zero_add] at this
    have zo_1 : w9.cell? ⟨w2.heap.size, 1, none⟩ = some (.int .i64 o.x.im) := by have := Ho.out 1 _ rfl; rwa [Nat.zero_add] at this
    have zo_2 : w9.cell? ⟨w2.heap.size, 2, none⟩ = some (.int .i64 o.x.den) := by have := Ho.out 2 _ rfl; rwa [Nat.zero_add] at this
    have zo_3 : w9.cell? ⟨w2.heap.size, 3, none⟩ = some (.int .i64 o.y.re) := by have := Ho.out 3 _ rfl; rwa [Nat.zero_add] at this
    have zo_4 : w9.cell? ⟨w2.heap.size, 4, none⟩ = some (.int .i64 o.y.im) := by have := Ho.out 4 _ rfl; rwa [Nat.zero_add] at this
    have zo_5 : w9.cell? ⟨w2.heap.size, 5, none⟩ = some (.int .i64 o.y.den) := by have := Ho.out 5 _ rfl; rwa [Nat.zero_add] at this
    have zn_0 : w9.cell? ⟨w6.heap.size, 0, none⟩ = some (.int .i64 n.re) := by have := Hn.out 0 _ rfl; rwa [Nat.zero_add] at this
    have zn_1 : w9.cell? ⟨w6.heap.size, 1, none⟩ = some (.int .i64 n.im) := by have := Hn.out 1 _ rfl; rwa [Nat.zero_add] at this
    have zn_2 : w9.cell? ⟨w6.heap.size, 2, none⟩ = some (.int .i64 n.den) := by have := Hn.out 2 _ rfl; rwa [Nat.zero_add] at this
    have hE : ∀ w, (Op.equalIn 10000 23 (.agg #[.int .i64 n.re, .int .i64 n.im, .int .i64 n.den]) (.agg #[.int .i64 s.re, .int .i64 s.im, .int .i64 s.den])).run Tryd.prog w = .ok (frB n s) w := eqFr_run n s 9998
    cases zz
    rotate_left
    · skip
      cases b3
      · skip
        go_wp2_with fail
        go_ret
        exact ⟨rfl, (by (repeat' first | (with_reducible exact HB.out) | with_reducible refine setCells_below _ _ _ ?_ (by first | omega | (simp <;> omega)) | with_reducible refine Below.setCell ?_ (by show _ ≤ _; first | omega | (simp <;> omega) | simp) _ | with_reducible refine Below.alloc ?_ (by first | omega | (simp <;> omega)) _ | with_reducible apply Below.drew | with_reducible refine below_drewN ?_ _))⟩
      cases b4
      · skip
        go_wp2_with fail
        go_ret
        exact ⟨rfl, (by (repeat' first | (with_reducible exact HB.out) | with_reducible refine setCells_below _ _ _ ?_ (by first | omega | (simp <;> omega)) | with_reducible refine Below.setCell ?_ (by show _ ≤ _; first | omega | (simp <;> omega) | simp) _ | with_reducible refine Below.alloc ?_ (by first | omega | (simp <;> omega)) _ | with_reducible apply Below.drew | with_reducible refine below_drewN ?_ _))⟩
      cases b5
      · skip
        go_wp2_with fail
        go_ret
        exact ⟨rfl, (by (repeat' first | (with_reducible exact HB.out) | with_reducible refine setCells_below _ _ _ ?_ (by first | omega | (simp <;> omega)) | with_reducible refine Below.setCell ?_ (by show _ ≤ _; first | omega | (simp <;> omega) | simp) _ | with_reducible refine Below.alloc ?_ (by first | omega | (simp <;> omega)) _ | with_reducible apply Below.drew | with_reducible refine below_drewN ?_ _))⟩
      cases b6
      · skip
        go_wp2_with fail
        go_ret
        exact ⟨rfl, (by (repeat' first | (with_reducible exact HB.out) | with_reducible refine setCells_below _ _ _ ?_ (by first | omega | (simp <;> omega)) | with_reducible refine Below.setCell ?_ (by show _ ≤ _; first | omega | (simp <;> omega) | simp) _ | with_reducible refine Below.alloc ?_ (by first | omega | (simp <;> omega)) _ | with_reducible apply Below.drew | with_reducible refine below_drewN ?_ _))⟩
      have hns := HLP.out n u v s HN.out HU.out HV.out HS.out
      have hfe : frB n s = true := frB_iff.2 hns
      rw [hfe] at hE
      clear hns hfe
      go_wp2_with fail
      go_ret
      exact ⟨rfl, (by (repeat' first | (with_reducible exact HB.out) | with_reducible refine setCells_below _ _ _ ?_ (by first | omega | (simp <;> omega)) | with_reducible refine Below.setCell ?_ (by show _ ≤ _; first | omega | (simp <;> omega) | simp) _ | with_reducible refine Below.alloc ?_ (by first | omega | (simp <;> omega)) _ | with_reducible apply Below.drew | with_reducible refine below_drewN ?_ _))⟩
    cases b1
    · skip
      cases b3
      · skip
        go_wp2_with fail
        go_ret
        exact ⟨rfl, (by (repeat' first | (with_reducible exact HB.out) | with_reducible refine setCells_below _ _ _ ?_ (by first | omega | (simp <;> omega)) | with_reducible refine Below.setCell ?_ (by show _ ≤ _; first | omega | (simp <;> omega) | simp) _ | with_reducible refine Below.alloc ?_ (by first | omega | (simp <;> omega)) _ | with_reducible apply Below.drew | with_reducible refine below_drewN ?_ _))⟩
      cases b4
      · skip
        go_wp2_with fail
        go_ret
        exact ⟨rfl, (by (repeat' first | (with_reducible exact HB.out) | with_reducible refine setCells_below _ _ _ ?_ (by first | omega | (simp <;> omega)) | with_reducible refine Below.setCell ?_ (by show _ ≤ _; first | omega | (simp <;> omega) | simp) _ | with_reducible refine Below.alloc ?_ (by first | omega | (simp <;> omega)) _ | with_reducible apply Below.drew | with_reducible refine below_drewN ?_ _))⟩
      cases b5
      · skip
        go_wp2_with fail
        go_ret
        exact ⟨rfl, (by (repeat' first | (with_reducible exact HB.out) | with_reducible refine setCells_below _ _ _ ?_ (by first | omega | (simp <;> omega)) | with_reducible refine Below.setCell ?_ (by show _ ≤ _; first | omega | (simp <;> omega) | simp) _ | with_reducible refine Below.alloc ?_ (by first | omega | (simp <;> omega)) _ | with_reducible apply Below.drew | with_reducible refine below_drewN ?_ _))⟩
      cases b6
      · skip
        go_wp2_with fail
        go_ret
        exact ⟨rfl, (by (repeat' first | (with_reducible exact HB.out) | with_reducible refine setCells_below _ _ _ ?_ (by first | omega | (simp <;> omega)) | with_reducible refine Below.setCell ?_ (by show _ ≤ _; first | omega | (simp <;> omega) | simp) _ | with_reducible refine Below.alloc ?_ (by first | omega | (simp <;> omega)) _ | with_reducible apply Below.drew | with_reducible refine below_drewN ?_ _))⟩
      have hns := HLP.out n u v s HN.out HU.out HV.out HS.out
      have hfe : frB n s = true := frB_iff.2 hns
      rw [hfe] at hE
      clear hns hfe
      go_wp2_with fail
      go_ret
      exact ⟨rfl, (by (repeat' first | (with_reducible exact HB.out) | with_reducible refine setCells_below _ _ _ ?_ (by first | omega | (simp <;> omega)) | with_reducible refine Below.setCell ?_ (by show _ ≤ _; first | omega | (simp <;> omega) | simp) _ | with_reducible refine Below.alloc ?_ (by first | omega | (simp <;> omega)) _ | with_reducible apply Below.drew | with_reducible refine below_drewN ?_ _))⟩
    cases b2
    · skip
      cases b3
      · skip
        go_wp2_with fail
        go_ret
        exact ⟨rfl, (by (repeat' first | (with_reducible exact HB.out) | with_reducible refine setCells_below _ _ _ ?_ (by first | omega | (simp <;> omega)) | with_reducible refine Below.setCell ?_ (by show _ ≤ _; first | omega | (simp <;> omega) | simp) _ | with_reducible refine Below.alloc ?_ (by first | omega | (simp <;> omega)) _ | with_reducible apply Below.drew | with_reducible refine below_drewN ?_ _))⟩
      cases b4
      · skip
        go_wp2_with fail
        go_ret
        exact ⟨rfl, (by (repeat' first | (with_reducible exact HB.out) | with_reducible refine setCells_below _ _ _ ?_ (by first | omega | (simp <;> omega)) | with_reducible refine Below.setCell ?_ (by show _ ≤ _; first | omega | (simp <;> omega) | simp) _ | with_reducible refine Below.alloc ?_ (by first | omega | (simp <;> omega)) _ | with_reducible apply Below.drew | with_reducible refine below_drewN ?_ _))⟩
      cases b5
      · skip
        go_wp2_with fail
        go_ret
        exact ⟨rfl, (by (repeat' first | (with_reducible exact HB.out) | with_reducible refine setCells_below _ _ _ ?_ (by first | omega | (simp <;> omega)) | with_reducible refine Below.setCell ?_ (by show _ ≤ _; first | omega | (simp <;> omega) | simp) _ | with_reducible refine Below.alloc ?_ (by first | omega | (simp <;> omega)) _ | with_reducible apply Below.drew | with_reducible refine below_drewN ?_ _))⟩
      cases b6
      · skip
        go_wp2_with fail
        go_ret
        exact ⟨rfl, (by (repeat' first | (with_reducible exact HB.out) | with_reducible refine setCells_below _ _ _ ?_ (by first | omega | (simp <;> omega)) | with_reducible refine Below.setCell ?_ (by show _ ≤ _; first | omega | (simp <;> omega) | simp) _ | with_reducible refine Below.alloc ?_ (by first | omega | (simp <;> omega)) _ | with_reducible apply Below.drew | with_reducible refine below_drewN ?_ _))⟩
      have hns := HLP.out n u v s HN.out HU.out HV.out HS.out
      have hfe : frB n s = true := frB_iff.2 hns
      rw [hfe] at hE
      clear hns hfe
      go_wp2_with fail
      go_ret
      exact ⟨rfl, (by (repeat' first | (with_reducible exact HB.out) | with_reducible refine setCells_below _ _ _ ?_ (by first | omega | (simp <;> omega)) | with_reducible refine Below.setCell ?_ (by show _ ≤ _; first | omega | (simp <;> omega) | simp) _ | with_reducible refine Below.alloc ?_ (by first | omega | (simp <;> omega)) _ | with_reducible apply Below.drew | with_reducible refine below_drewN ?_ _))⟩
    have hal := HLA.out (HZZ.out rfl) (by rw [HT1.out]) (by rw [HT2.out])
    go_wp2_with fail
    refine (ijal_any a o _ (HG_zero.out.below (Below.alloc HB.out (by first | omega | (simp; done) | (simp <;> omega)) _))).mono ?_
    rintro e w10 ho
    rw [hal] at ho
    obtain ⟨rfl, hb⟩ : e = .returned (.bool true) ∧ Below _ _ _ := (id ho)
    clear ho
    have HB := Lib.hid (show Below w.heap.size w w10 from HB.out.trans ((show Below _ _ _ from ((Below.refl _ _).alloc (by first | omega | (simp; done) | (simp <;> omega)) _)).trans (hb.mono (by first | omega | (simp <;> omega)))))
    have Ha : Hid (w10.rangeAt (w1.heap.size) 0 [.int .i64 a.x.re, .int .i64 a.x.im, .int .i64 a.x.den, .int .i64 a.y.re, .int .i64 a.y.im, .int .i64 a.y.den]) := rangeAt_below (World.rangeAt_alloc Ha.out _) hb (by first | omega | (simp; done) | (simp <;> omega))
    have Hc : Hid (w10.rangeAt (w1.heap.size + 1) 0 [.int .i64 c.re, .int .i64 c.im, .int .i64 c.den]) := rangeAt_below (World.rangeAt_alloc Hc.out _) hb (by first | omega | (simp; done) | (simp <;> omega))
    have Ho : Hid (w10.rangeAt (w2.heap.size) 0 [.int .i64 o.x.re, .int .i64 o.x.im, .int .i64 o.x.den, .int .i64 o.y.re, .int .i64 o.y.im, .int .i64 o.y.den]) := rangeAt_below (World.rangeAt_alloc Ho.out _) hb (by first | omega | (simp; done) | (simp <;> omega))
    have Hqq : Hid (w10.rangeAt (w3.heap.size) 0 [.int .i64 o.x.re, .int .i64 o.x.im, .int .i64 o.x.den, .int .i64 o.y.re, .int .i64 o.y.im, .int .i64 o.y.den]) := rangeAt_below (World.rangeAt_alloc Hqq.out _) hb (by first | omega | (simp; done) | (simp <;> omega))
    have Ht1 : Hid (w10.rangeAt (w4.heap.size) 0 [.int .i64 t1.re, .int .i64 t1.im, .int .i64 t1.den]) := rangeAt_below (World.rangeAt_alloc Ht1.out _) hb (by first | omega | (simp; done) | (simp <;> omega))
    have Ht2 : Hid (w10.rangeAt (w5.heap.size) 0 [.int .i64 t2.re, .int .i64 t2.im, .int .i64 t2.den]) := rangeAt_below (World.rangeAt_alloc Ht2.out _) hb (by first | omega | (simp; done) | (simp <;> omega))
    have Hn : Hid (w10.rangeAt (w6.heap.size) 0 [.int .i64 n.re, .int .i64 n.im, .int .i64 n.den]) := rangeAt_below (World.rangeAt_alloc Hn.out _) hb (by first | omega | (simp; done) | (simp <;> omega))
    have Hu : Hid (w10.rangeAt (w7.heap.size) 0 [.int .i64 u.re, .int .i64 u.im, .int .i64 u.den]) := rangeAt_below (World.rangeAt_alloc Hu.out _) hb (by first | omega | (simp; done) | (simp <;> omega))
    have Hv : Hid (w10.rangeAt (w8.heap.size) 0 [.int .i64 v.re, .int .i64 v.im, .int .i64 v.den]) := rangeAt_below (World.rangeAt_alloc Hv.out _) hb (by first | omega | (simp; done) | (simp <;> omega))
    have Hs : Hid (w10.rangeAt (w9.heap.size) 0 [.int .i64 s.re, .int .i64 s.im, .int .i64 s.den]) := rangeAt_below (rangeAt_new _ _ _) hb (by first | omega | (simp; done) | (simp <;> omega))
    have hz10 := hb.size
    (try simp at hz10)
    clear hb
    have nA0 : w1.heap.size < w10.heap.size := by omega
    have nB0 : ¬ w1.heap.size = w10.heap.size := by omega
    have nC0 : ¬ w10.heap.size = w1.heap.size := by omega
    have nA1 : w1.heap.size + 1 < w10.heap.size := by omega
    have nB1 : ¬ w1.heap.size + 1 = w10.heap.size := by omega
    have nC1 : ¬ w10.heap.size = w1.heap.size + 1 := by omega
    have nA2 : w2.heap.size < w10.heap.size := by omega
    have nB2 : ¬ w2.heap.size = w10.heap.size := by omega
    have nC2 : ¬ w10.heap.size = w2.heap.size := by omega
    have nA3 : w3.heap.size < w10.heap.size := by omega
    have nB3 : ¬ w3.heap.size = w10.heap.size := by omega
    have nC3 : ¬ w10.heap.size = w3.heap.size := by omega
    have nA4 : w4.heap.size < w10.heap.size := by omega
    have nB4 : ¬ w4.heap.size = w10.heap.size := by omega
    have nC4 : ¬ w10.heap.size = w4.heap.size := by omega
    have nA5 : w5.heap.size < w10.heap.size := by omega
    have nB5 : ¬ w5.heap.size = w10.heap.size := by omega
    have nC5 : ¬ w10.heap.size = w5.heap.size := by omega
    have nA6 : w6.heap.size < w10.heap.size := by omega
    have nB6 : ¬ w6.heap.size = w10.heap.size := by omega
    have nC6 : ¬ w10.heap.size = w6.heap.size := by omega
    have nA7 : w7.heap.size < w10.heap.size := by omega
    have nB7 : ¬ w7.heap.size = w10.heap.size := by omega
    have nC7 : ¬ w10.heap.size = w7.heap.size := by omega
    have nA8 : w8.heap.size < w10.heap.size := by omega
    have nB8 : ¬ w8.heap.size = w10.heap.size := by omega
    have nC8 : ¬ w10.heap.size = w8.heap.size := by omega
    have nA9 : w9.heap.size < w10.heap.size := by omega
    have nB9 : ¬ w9.heap.size = w10.heap.size := by omega
    have nC9 : ¬ w10.heap.size = w9.heap.size := by omega
    have zn_0 : w10.cell? ⟨w6.heap.size, 0, none⟩ = some (.int .i64 n.re) := by have := Hn.out 0 _ rfl; rwa [Nat.zero_add] at this
    have zn_1 : w10.cell? ⟨w6.heap.size, 1, none⟩ = some (.int .i64 n.im) := by have := Hn.out 1 _ rfl; rwa [Nat.zero_add] at this
    have zn_2 : w10.cell? ⟨w6.heap.size, 2, none⟩ = some (.int .i64 n.den) := by have := Hn.out 2 _ rfl; rwa [Nat.zero_add] at this
    have zs_0 : w10.cell? ⟨w9.heap.size, 0, none⟩ = some (.int .i64 s.re) := by have := Hs.out 0 _ rfl; rwa [Nat.zero_add] at this
    have zs_1 : w10.cell? ⟨w9.heap.size, 1, none⟩ = some (.int .i64 s.im) := by have := Hs.out 1 _ rfl; rwa [Nat.zero_add] at this
    have zs_2 : w10.cell? ⟨w9.heap.size, 2, none⟩ = some (.int .i64 s.den) := by have := Hs.out 2 _ rfl; rwa [Nat.zero_add] at this
    cases b3
    · skip
      go_wp2_with fail
      go_ret
      exact ⟨rfl, (by (repeat' first | (with_reducible exact HB.out) | with_reducible refine setCells_below _ _ _ ?_ (by first | omega | (simp <;> omega)) | with_reducible refine Below.setCell ?_ (by show _ ≤ _; first | omega | (simp <;> omega) | simp) _ | with_reducible refine Below.alloc ?_ (by first | omega | (simp <;> omega)) _ | with_reducible apply Below.drew | with_reducible refine below_drewN ?_ _))⟩
    cases b4
    · skip
      go_wp2_with fail
      go_ret
      exact ⟨rfl, (by (repeat' first | (with_reducible exact HB.out) | with_reducible refine setCells_below _ _ _ ?_ (by first | omega | (simp <;> omega)) | with_reducible refine Below.setCell ?_ (by show _ ≤ _; first | omega | (simp <;> omega) | simp) _ | with_reducible refine Below.alloc ?_ (by first | omega | (simp <;> omega)) _ | with_reducible apply Below.drew | with_reducible refine below_drewN ?_ _))⟩
    cases b5
    · skip
      go_wp2_with fail
      go_ret
      exact ⟨rfl, (by (repeat' first | (with_reducible exact HB.out) | with_reducible refine setCells_below _ _ _ ?_ (by first | omega | (simp <;> omega)) | with_reducible refine Below.setCell ?_ (by show _ ≤ _; first | omega | (simp <;> omega) | simp) _ | with_reducible refine Below.alloc ?_ (by first | omega | (simp <;> omega)) _ | with_reducible apply Below.drew | with_reducible refine below_drewN ?_ _))⟩
    cases b6
    · skip
      go_wp2_with fail
      go_ret
      exact ⟨rfl, (by (repeat' first | (with_reducible exact HB.out) | with_reducible refine setCells_below _ _ _ ?_ (by first | omega | (simp <;> omega)) | with_reducible refine Below.setCell ?_ (by show _ ≤ _; first | omega | (simp <;> omega) | simp) _ | with_reducible refine Below.alloc ?_ (by first | omega | (simp <;> omega)) _ | with_reducible apply Below.drew | with_reducible refine below_drewN ?_ _))⟩
    have hns := HLP.out n u v s HN.out HU.out HV.out HS.out
    have hfe : frB n s = true := frB_iff.2 hns
    rw [hfe] at hE
    clear hns hfe
    go_wp2_with fail
    go_ret
    exact ⟨rfl, (by (repeat' first | (with_reducible exact HB.out) | with_reducible refine setCells_below _ _ _ ?_ (by first | omega | (simp <;> omega)) | with_reducible refine Below.setCell ?_ (by show _ ≤ _; first | omega | (simp <;> omega) | simp) _ | with_reducible refine Below.alloc ?_ (by first | omega | (simp <;> omega)) _ | with_reducible apply Below.drew | with_reducible refine below_drewN ?_ _))⟩
set_option maxRecDepth 100000 in
theorem door_FnJonesTimes (os : Os) (args : Array Value) : laidMetH Tryd.prog Rows.fnJonesTimesRow.laid ((World.doorLaid Tryd.prog 43 os).forCall (fun _ _ => 0) ⟨#[], args, []⟩).memory :=
  laidMetH_of_parts3 (fuel := 8) (laidMet_of_run' 8 (by kernel_rfl) (by kernel_rfl)) (by kernel_rfl) (by kernel_rfl)
set_option maxRecDepth 100000 in
theorem lifted_FnJonesTimes (os : Os) (started : os.Started) (H : Type) (enc : TypeId × Value → H) :
    ReturnsInHanded {} Tryd.checked os 7 .any (fun w args => (Rows.fnJonesTimesSpec.pre enc Tryd.prog Tryd.f7 [] false w args ∧ laidMetH Tryd.prog Rows.fnJonesTimesRow.laid w) ∧ sizedMet enc Tryd.prog Tryd.f7 (OpenSpec.ofChange Rows.fnJonesTimesSpec) false w args) (Rows.fnJonesTimesSpec.post enc Tryd.prog Tryd.f7 false true false false) := by
  refine returnsInHanded_of_change_and (C := Tryd.checked) (X := fun w _ => laidMetH Tryd.prog Rows.fnJonesTimesRow.laid w) (fun _ _ _ hh h => h.of_heap hh) Tryd.own started (by kernel_rfl) Tryd.func7
    (ChangeSpec.witness_shaped (enc := enc) (C := Tryd.checked) (os := os) (X := fun w _ => laidMetH Tryd.prog Rows.fnJonesTimesRow.laid w) false (World.doorLaid Tryd.prog 43 os) #[.slice none 0 0] 8 rfl (World.shaped_of_RefB (by kernel_rfl) (by kernel_rfl)) (by kernel_rfl) (by kernel_rfl) (by kernel_rfl) (door_FnJonesTimes os _)) ?_
  intro W base args ds gs before hval0 hW _ _ hL _
  have hval : ∀ (j : Nat) t v, Tryd.f7.params[j]? = some t → args[j]? = some v → Value.okWide Tryd.prog W .any base t v := hval0
  have hW' := hW
  obtain ⟨p, q, hA0, hV, rfl, hfz, hnd⟩ := hW
  have hA : DataW.TrodAll enc Tryd.prog W 0 (fun _ => true) true Tryd.f7.params.toList args.toList ds p := hA0
  rw [Tryd.params7] at hA hval
  obtain ⟨v0, d0, rfl, rfl, h0⟩ := trodAll_one hA
  obtain ⟨g0, rfl⟩ := len1 (vars_len hV)
  have hG_zero := gat_zero hL (by decide) (by simp [Rows.fnJonesTimesRow, Rows.laid_loop_example_polarisedlight_impl_zero])
  have h0k := h0
  obtain ⟨fuel, hf⟩ := h0
  clear hA0 hval0
  have hlt : ∀ x ∈ p, x.block < W.heap.size := fun x hx => by simpa using hW'.lt x (List.mem_append_left _ hx)
  obtain ⟨a0, len, cap, rfl⟩ := okWide_slice Tryd.underlying55 (hval 0 55 v0 rfl rfl)
  obtain ⟨hcap, HC⟩ := open_code hf hlt
  refine (walk_FnJonesTimes a0 len cap W hcap HC hG_zero).mono fun e W' ⟨he, hb⟩ => ?_
  subst he
  refine ⟨_, rfl, _, _, _, [], p, q, hW', trodAll_mk1 (shut_bool Tryd.underlying4 _), trodAll_mk1 (Below.trod Tryd.laidOut (by kernel_rfl) (of_decide_eq_true (by kernel_rfl)) h0k hb (fun x hx => hlt x (by simp [hx]))), Below.trodVars Tryd.laidOut hb (by kernel_rfl) hV, hb.frame _, fun h => by cases h⟩
theorem said_FnJonesTimes : Rows.FnJonesTimesSaid :=
  OpenClaim.holds_of_wide 7 Tryd.f7 rfl rfl rfl rfl rfl rfl rfl ⟨rfl, rfl, rfl, rfl, rfl⟩ rfl rfl rfl rfl rfl (by kernel_rfl) Tryd.func7 (by kernel_rfl)
    (of_decide_eq_true (by kernel_rfl)) (by unfold Func.isWrapper; first | (rw [if_pos (by decide +kernel)]; kernel_rfl) | (rw [if_neg (by decide +kernel)]; exact ⟨rfl, rfl⟩))
    (fun os started H enc _ => lifted_FnJonesTimes os started H enc)
set_option maxRecDepth 100000 in
/-- THE STATEMENT: THE CARD. -/
theorem holds_FnJonesTimes : Rows.FnJonesTimesCardSaid :=
  Claim7.holds_tied_plain_at .later [] [.data] true (true, "4641a63997bae2f3f605d4183781842987cd6e93f60671f0fe7f4fb0ecf64798") false
    said_FnJonesTimes (fun _ h => by cases h) (by kernel_rfl) (fun _ h => by cases h) fnJonesTimes_row_tie rfl ⟨rfl, rfl⟩ (by kernel_rfl) rfl
    (fun f fn hf hfn => by
      obtain rfl : f = 7 := Option.some.inj ((show Tryd.prog.funcNamed "loop.example/polarisedlight/laws.FnJonesTimes" = some 7 by kernel_rfl).symm.trans hf) |>.symm
      obtain rfl : fn = Tryd.f7 := (Option.some.inj (Tryd.func7.symm.trans hfn)).symm
      exact ⟨by kernel_rfl, fun j t ht => by
        rw [Tryd.params7] at ht
        have hm : t ∈ [55] := by simpa using Array.mem_of_getElem? ht
        have hall : ([55].all fun u => !Tryd.prog.wantsStandIn u) = true := by kernel_rfl
        exact (show Tryd.prog.wantsStandIn t = false by simpa using List.all_eq_true.1 hall t hm)⟩)
    (by kernel_rfl)
end Go.Proofs.YtmcokdiopcpifaaDoor
