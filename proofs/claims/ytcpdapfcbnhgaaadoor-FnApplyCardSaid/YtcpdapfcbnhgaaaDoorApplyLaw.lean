/- Lossless matrices keep the power. The row lists package-level variables, and the card ties them to the text of the program: the pruned copy of the project that the seat holds. -/
import Derived.Test.YtcpdapfcbnhgaaaDoorDW3
import Derived.Test.YtcpdapfcbnhgaaaDoorPV
import Derived.Test.YtcpdapfcbnhgaaaDoorTie
import Derived.Test.YtcpdapfcbnhgaaaDoorCards
import Derived.SevenTiedAt
import Derived.Test.YtcpdapfcbnhgaaaDoorAP
import Derived.Test.YtcpdapfcbnhgaaaDoorV
import Derived.Test.YtcpdapfcbnhgaaaDoorEQ2
namespace Go.Proofs.YtcpdapfcbnhgaaaDoor
open Go.ChangeShapes Go.WideShapes Go.ChangeAt Go.RowKit Pol

set_option maxRecDepth 100000 in
set_option maxHeartbeats 40000000 in
theorem walk_FnApply (a0 : Option Addr) (len cap : Nat) (w : World) (hcap : len ≤ cap) (HC : Code w.heap.size w a0 len) (hg_same : Gat w 0 mSame.get 4) :
    Calls Tryd.prog 10 #[.slice a0 len cap] w fun e w' => e = .returned (.bool true) ∧ Below w.heap.size w w' := by
  by_cases hbig : 1048576 < len
  · have h1 : (1048576 : Int) < (len : Int) := by omega
    go_enter Tryd.func10, Tryd.ntmps10
    go_wp2
    go_ret
    exact ⟨rfl, Below.refl _ _⟩
  have h1 : ¬ (1048576 : Int) < (len : Int) := by omega
  have HG_same := Lib.hid hg_same; clear hg_same
  go_enter Tryd.func10, Tryd.ntmps10
  go_wp2_with fail
  refine (DrawMatApply_any a0 len cap _ hcap HC).mono ?_
  rintro e w1 ⟨a, v, rfl, hb⟩
  have HB := Lib.hid (show Below w.heap.size w w1 from hb)
  have hz1 := hb.size
  (try simp at hz1)
  clear hb
  cases hg : (mAp a v).2
  · skip
    have HG : Hid (mAp a v = (j2z, false)) := mAp_no hg
    go_wp2_with (first | ((with_reducible refine wpList_load_mid ?kl11 45 ?kl1x ?kl12 (w1.heap.size) 0 ?kl13 [.int .i64 a.a.re, .int .i64 a.a.im, .int .i64 a.a.den, .int .i64 a.b.re, .int .i64 a.b.im, .int .i64 a.b.den, .int .i64 a.c.re, .int .i64 a.c.im, .int .i64 a.c.den, .int .i64 a.d.re, .int .i64 a.d.im, .int .i64 a.d.den] ?kl1d ?kl14 ?kl15 ?kl16 ?kl17 ?kl18); (case kl12 => rfl); (case kl11 => rfl); (case kl13 => rfl); (case kl14 => (exact (World.rangeAt_alloc (rangeAt_new _ _ _) _))); (case kl15 => exact Tryd.underlying45); (case kl16 => rfl); (case kl17 => kernel_rfl)) | ((with_reducible refine wpList_load_mid ?kl21 37 ?kl2x ?kl22 (w1.heap.size + 1) 0 ?kl23 [.int .i64 v.x.re, .int .i64 v.x.im, .int .i64 v.x.den, .int .i64 v.y.re, .int .i64 v.y.im, .int .i64 v.y.den] ?kl2d ?kl24 ?kl25 ?kl26 ?kl27 ?kl28); (case kl22 => rfl); (case kl21 => rfl); (case kl23 => rfl); (case kl24 => (exact (rangeAt_new2 (by simp)))); (case kl25 => exact Tryd.underlying37); (case kl26 => rfl); (case kl27 => kernel_rfl)))
    refine (imap_m a v _).mono ?_
    rintro e w2 ho
    rw [HG.out] at ho
    obtain ⟨rfl, hb⟩ : e = .returned (.tuple #[.agg #[.int .i64 j2z.x.re, .int .i64 j2z.x.im, .int .i64 j2z.x.den, .int .i64 j2z.y.re, .int .i64 j2z.y.im, .int .i64 j2z.y.den], .bool false]) ∧ Below _ _ _ := ho.fn
    clear ho
    have HB := Lib.hid (show Below w.heap.size w w2 from HB.out.trans ((show Below _ _ _ from (((Below.refl _ _).alloc (by omega) _).alloc (by first | omega | (simp; done) | (simp <;> omega)) _)).trans (hb.mono (by first | omega | (simp <;> omega)))))
    have Ha : Hid (w2.rangeAt w1.heap.size 0 [.int .i64 a.a.re, .int .i64 a.a.im, .int .i64 a.a.den, .int .i64 a.b.re, .int .i64 a.b.im, .int .i64 a.b.den, .int .i64 a.c.re, .int .i64 a.c.im, .int .i64 a.c.den, .int .i64 a.d.re, .int .i64 a.d.im, .int .i64 a.d.den]) := rangeAt_below (World.rangeAt_alloc (rangeAt_new _ _ _) _) hb (by first | omega | (simp; done) | (simp <;> omega))
    have Hv : Hid (w2.rangeAt (w1.heap.size + 1) 0 [.int .i64 v.x.re, .int .i64 v.x.im, .int .i64 v.x.den, .int .i64 v.y.re, .int .i64 v.y.im, .int .i64 v.y.den]) := rangeAt_below (rangeAt_new2 (by simp)) hb (by first | omega | (simp; done) | (simp <;> omega))
    have hz2 := hb.size
    (try simp at hz2)
    clear hb
    have nA0 : w1.heap.size < w2.heap.size := by omega
    have nB0 : ¬ w1.heap.size = w2.heap.size := by omega
    have nC0 : ¬ w2.heap.size = w1.heap.size := by omega
    have nA1 : w1.heap.size + 1 < w2.heap.size := by omega
    have nB1 : ¬ w1.heap.size + 1 = w2.heap.size := by omega
    have nC1 : ¬ w2.heap.size = w1.heap.size + 1 := by omega
    go_wp2_with (first | ((with_reducible refine wpList_load_mid ?kl31 45 ?kl3x ?kl32 (w1.heap.size) 0 ?kl33 [.int .i64 a.a.re, .int .i64 a.a.im, .int .i64 a.a.den, .int .i64 a.b.re, .int .i64 a.b.im, .int .i64 a.b.den, .int .i64 a.c.re, .int .i64 a.c.im, .int .i64 a.c.den, .int .i64 a.d.re, .int .i64 a.d.im, .int .i64 a.d.den] ?kl3d ?kl34 ?kl35 ?kl36 ?kl37 ?kl38); (case kl32 => rfl); (case kl31 => rfl); (case kl33 => rfl); (case kl34 => (exact (World.rangeAt_alloc Ha.out _))); (case kl35 => exact Tryd.underlying45); (case kl36 => rfl); (case kl37 => kernel_rfl)) | ((with_reducible refine wpList_load_mid ?kl41 37 ?kl4x ?kl42 (w1.heap.size + 1) 0 ?kl43 [.int .i64 v.x.re, .int .i64 v.x.im, .int .i64 v.x.den, .int .i64 v.y.re, .int .i64 v.y.im, .int .i64 v.y.den] ?kl4d ?kl44 ?kl45 ?kl46 ?kl47 ?kl48); (case kl42 => rfl); (case kl41 => rfl); (case kl43 => rfl); (case kl44 => (exact (World.rangeAt_alloc Hv.out _))); (case kl45 => exact Tryd.underlying37); (case kl46 => rfl); (case kl47 => kernel_rfl)))
    refine (smap_any a v _).mono ?_
    rintro e w3 ho
    rw [HG.out] at ho
    obtain ⟨rfl, hb⟩ : e = .returned (.tuple #[.agg #[.int .i64 j2z.x.re, .int .i64 j2z.x.im, .int .i64 j2z.x.den, .int .i64 j2z.y.re, .int .i64 j2z.y.im, .int .i64 j2z.y.den], .bool false]) ∧ Below _ _ _ := ho.fn
    clear ho
    have HB := Lib.hid (show Below w.heap.size w w3 from HB.out.trans ((show Below _ _ _ from ((Below.refl _ _).alloc (by omega) _)).trans (hb.mono (by first | omega | (simp <;> omega)))))
    have Ha : Hid (w3.rangeAt (w1.heap.size) 0 [.int .i64 a.a.re, .int .i64 a.a.im, .int .i64 a.a.den, .int .i64 a.b.re, .int .i64 a.b.im, .int .i64 a.b.den, .int .i64 a.c.re, .int .i64 a.c.im, .int .i64 a.c.den, .int .i64 a.d.re, .int .i64 a.d.im, .int .i64 a.d.den]) := rangeAt_below (World.rangeAt_alloc Ha.out _) hb (by first | omega | (simp; done) | (simp <;> omega))
    have Hv : Hid (w3.rangeAt (w1.heap.size + 1) 0 [.int .i64 v.x.re, .int .i64 v.x.im, .int .i64 v.x.den, .int .i64 v.y.re, .int .i64 v.y.im, .int .i64 v.y.den]) := rangeAt_below (World.rangeAt_alloc Hv.out _) hb (by first | omega | (simp; done) | (simp <;> omega))
    have Ho : Hid (w3.rangeAt w2.heap.size 0 [.int .i64 j2z.x.re, .int .i64 j2z.x.im, .int .i64 j2z.x.den, .int .i64 j2z.y.re, .int .i64 j2z.y.im, .int .i64 j2z.y.den]) := rangeAt_below (rangeAt_new _ _ _) hb (by first | omega | (simp; done) | (simp <;> omega))
    have hz3 := hb.size
    (try simp at hz3)
    clear hb
    have nA0 : w1.heap.size < w3.heap.size := by omega
    have nB0 : ¬ w1.heap.size = w3.heap.size := by omega
    have nC0 : ¬ w3.heap.size = w1.heap.size := by omega
    have nA1 : w1.heap.size + 1 < w3.heap.size := by omega
    have nB1 : ¬ w1.heap.size + 1 = w3.heap.size := by omega
    have nC1 : ¬ w3.heap.size = w1.heap.size + 1 := by omega
    have nA2 : w2.heap.size < w3.heap.size := by omega
    have nB2 : ¬ w2.heap.size = w3.heap.size := by omega
    have nC2 : ¬ w3.heap.size = w2.heap.size := by omega
    have zo_0 : w3.cell? ⟨w2.heap.size, 0, none⟩ = some (.int .i64 j2z.x.re) := by have := Ho.out 0 _ rfl; rwa [Nat.zero_add] at this
    have zo_1 : w3.cell? ⟨w2.heap.size, 1, none⟩ = some (.int .i64 j2z.x.im) := by have := Ho.out 1 _ rfl; rwa [Nat.zero_add] at this
    have zo_2 : w3.cell? ⟨w2.heap.size, 2, none⟩ = some (.int .i64 j2z.x.den) := by have := Ho.out 2 _ rfl; rwa [Nat.zero_add] at this
    have zo_3 : w3.cell? ⟨w2.heap.size, 3, none⟩ = some (.int .i64 j2z.y.re) := by have := Ho.out 3 _ rfl; rwa [Nat.zero_add] at this
    have zo_4 : w3.cell? ⟨w2.heap.size, 4, none⟩ = some (.int .i64 j2z.y.im) := by have := Ho.out 4 _ rfl; rwa [Nat.zero_add] at this
    have zo_5 : w3.cell? ⟨w2.heap.size, 5, none⟩ = some (.int .i64 j2z.y.den) := by have := Ho.out 5 _ rfl; rwa [Nat.zero_add] at this
    go_wp2_with fail
    go_ret
    exact ⟨rfl, (by (repeat' first | (with_reducible exact HB.out) | with_reducible refine setCells_below _ _ _ ?_ (by first | omega | (simp <;> omega)) | with_reducible refine Below.setCell ?_ (by show _ ≤ _; first | omega | (simp <;> omega) | simp) _ | with_reducible refine Below.alloc ?_ (by first | omega | (simp <;> omega)) _ | with_reducible apply Below.drew))⟩
  · skip
    obtain ⟨o, ho⟩ : ∃ o, o = (mAp a v).1 := ⟨_, rfl⟩
    have hG : mAp a v = (o, true) := by rw [ho, ← hg]
    have hv := (mAp_parts hG).1
    have HA : Hid (gAdj a = (mC a, true)) := gAdj_y hv
    obtain ⟨n, p, hn⟩ : ∃ n p, jPow o = (n, p) := ⟨_, _, rfl⟩
    obtain ⟨m, q, hm⟩ : ∃ m q, jPow v = (m, q) := ⟨_, _, rfl⟩
    obtain ⟨c, hc⟩ : ∃ c, c = mC a := ⟨_, rfl⟩
    obtain ⟨b, s, hb⟩ : ∃ b s, mAp c o = (b, s) := ⟨_, _, rfl⟩
    obtain ⟨x, t, hx⟩ : ∃ x t, jIn v b = (x, t) := ⟨_, _, rfl⟩
    have HK := Lib.hid (fun (h1 : p = true) (h2 : q = true) (h3 : gLos a = true) => law_keep h3 hG (n := n) (m := m) (by rw [hn, h1]) (by rw [hm, h2]))
    have HX := Lib.hid (fun (h1 : p = true) (h2 : s = true) (h3 : t = true) => law_back (b := b) (x := x) (n := n) hG (by rw [← hc, hb, h2]) (by rw [hn, h1]) (by rw [hx, h3]))
    rw [← hc] at HA
    have HG := Lib.hid hG
    have HN := Lib.hid hn
    have HM := Lib.hid hm
    have HBk := Lib.hid hb
    have HI := Lib.hid hx
    clear hG hn hm hb hx hc hv ho hg
    go_wp2_with (first | ((with_reducible refine wpList_load_mid ?kl51 45 ?kl5x ?kl52 (w1.heap.size) 0 ?kl53 [.int .i64 a.a.re, .int .i64 a.a.im, .int .i64 a.a.den, .int .i64 a.b.re, .int .i64 a.b.im, .int .i64 a.b.den, .int .i64 a.c.re, .int .i64 a.c.im, .int .i64 a.c.den, .int .i64 a.d.re, .int .i64 a.d.im, .int .i64 a.d.den] ?kl5d ?kl54 ?kl55 ?kl56 ?kl57 ?kl58); (case kl52 => rfl); (case kl51 => rfl); (case kl53 => rfl); (case kl54 => (exact (World.rangeAt_alloc (rangeAt_new _ _ _) _))); (case kl55 => exact Tryd.underlying45); (case kl56 => rfl); (case kl57 => kernel_rfl)) | ((with_reducible refine wpList_load_mid ?kl61 37 ?kl6x ?kl62 (w1.heap.size + 1) 0 ?kl63 [.int .i64 v.x.re, .int .i64 v.x.im, .int .i64 v.x.den, .int .i64 v.y.re, .int .i64 v.y.im, .int .i64 v.y.den] ?kl6d ?kl64 ?kl65 ?kl66 ?kl67 ?kl68); (case kl62 => rfl); (case kl61 => rfl); (case kl63 => rfl); (case kl64 => (exact (rangeAt_new2 (by simp)))); (case kl65 => exact Tryd.underlying37); (case kl66 => rfl); (case kl67 => kernel_rfl)))
    refine (imap_m a v _).mono ?_
    rintro e w2 ho
    rw [HG.out] at ho
    obtain ⟨rfl, hb⟩ : e = .returned (.tuple #[.agg #[.int .i64 o.x.re, .int .i64 o.x.im, .int .i64 o.x.den, .int .i64 o.y.re, .int .i64 o.y.im, .int .i64 o.y.den], .bool true]) ∧ Below _ _ _ := ho.fn
    clear ho
    have HB := Lib.hid (show Below w.heap.size w w2 from HB.out.trans ((show Below _ _ _ from (((Below.refl _ _).alloc (by omega) _).alloc (by first | omega | (simp; done) | (simp <;> omega)) _)).trans (hb.mono (by first | omega | (simp <;> omega)))))
    have Ha : Hid (w2.rangeAt w1.heap.size 0 [.int .i64 a.a.re, .int .i64 a.a.im, .int .i64 a.a.den, .int .i64 a.b.re, .int .i64 a.b.im, .int .i64 a.b.den, .int .i64 a.c.re, .int .i64 a.c.im, .int .i64 a.c.den, .int .i64 a.d.re, .int .i64 a.d.im, .int .i64 a.d.den]) := rangeAt_below (World.rangeAt_alloc (rangeAt_new _ _ _) _) hb (by first | omega | (simp; done) | (simp <;> omega))
    have Hv : Hid (w2.rangeAt (w1.heap.size + 1) 0 [.int .i64 v.x.re, .int .i64 v.x.im, .int .i64 v.x.den, .int .i64 v.y.re, .int .i64 v.y.im, .int .i64 v.y.den]) := rangeAt_below (rangeAt_new2 (by simp)) hb (by first | omega | (simp; done) | (simp <;> omega))
    have hz2 := hb.size
    (try simp at hz2)
    clear hb
    have nA0 : w1.heap.size < w2.heap.size := by omega
    have nB0 : ¬ w1.heap.size = w2.heap.size := by omega
    have nC0 : ¬ w2.heap.size = w1.heap.size := by omega
    have nA1 : w1.heap.size + 1 < w2.heap.size := by omega
    have nB1 : ¬ w1.heap.size + 1 = w2.heap.size := by omega
    have nC1 : ¬ w2.heap.size = w1.heap.size + 1 := by omega
    go_wp2_with (first | ((with_reducible refine wpList_load_mid ?kl71 45 ?kl7x ?kl72 (w1.heap.size) 0 ?kl73 [.int .i64 a.a.re, .int .i64 a.a.im, .int .i64 a.a.den, .int .i64 a.b.re, .int .i64 a.b.im, .int .i64 a.b.den, .int .i64 a.c.re, .int .i64 a.c.im, .int .i64 a.c.den, .int .i64 a.d.re, .int .i64 a.d.im, .int .i64 a.d.den] ?kl7d ?kl74 ?kl75 ?kl76 ?kl77 ?kl78); (case kl72 => rfl); (case kl71 => rfl); (case kl73 => rfl); (case kl74 => (exact (World.rangeAt_alloc Ha.out _))); (case kl75 => exact Tryd.underlying45); (case kl76 => rfl); (case kl77 => kernel_rfl)) | ((with_reducible refine wpList_load_mid ?kl81 37 ?kl8x ?kl82 (w1.heap.size + 1) 0 ?kl83 [.int .i64 v.x.re, .int .i64 v.x.im, .int .i64 v.x.den, .int .i64 v.y.re, .int .i64 v.y.im, .int .i64 v.y.den] ?kl8d ?kl84 ?kl85 ?kl86 ?kl87 ?kl88); (case kl82 => rfl); (case kl81 => rfl); (case kl83 => rfl); (case kl84 => (exact (World.rangeAt_alloc Hv.out _))); (case kl85 => exact Tryd.underlying37); (case kl86 => rfl); (case kl87 => kernel_rfl)))
    refine (smap_any a v _).mono ?_
    rintro e w3 ho
    rw [HG.out] at ho
    obtain ⟨rfl, hb⟩ : e = .returned (.tuple #[.agg #[.int .i64 o.x.re, .int .i64 o.x.im, .int .i64 o.x.den, .int .i64 o.y.re, .int .i64 o.y.im, .int .i64 o.y.den], .bool true]) ∧ Below _ _ _ := ho.fn
    clear ho
    have HB := Lib.hid (show Below w.heap.size w w3 from HB.out.trans ((show Below _ _ _ from ((Below.refl _ _).alloc (by omega) _)).trans (hb.mono (by first | omega | (simp <;> omega)))))
    have Ha : Hid (w3.rangeAt (w1.heap.size) 0 [.int .i64 a.a.re, .int .i64 a.a.im, .int .i64 a.a.den, .int .i64 a.b.re, .int .i64 a.b.im, .int .i64 a.b.den, .int .i64 a.c.re, .int .i64 a.c.im, .int .i64 a.c.den, .int .i64 a.d.re, .int .i64 a.d.im, .int .i64 a.d.den]) := rangeAt_below (World.rangeAt_alloc Ha.out _) hb (by first | omega | (simp; done) | (simp <;> omega))
    have Hv : Hid (w3.rangeAt (w1.heap.size + 1) 0 [.int .i64 v.x.re, .int .i64 v.x.im, .int .i64 v.x.den, .int .i64 v.y.re, .int .i64 v.y.im, .int .i64 v.y.den]) := rangeAt_below (World.rangeAt_alloc Hv.out _) hb (by first | omega | (simp; done) | (simp <;> omega))
    have Ho : Hid (w3.rangeAt w2.heap.size 0 [.int .i64 o.x.re, .int .i64 o.x.im, .int .i64 o.x.den, .int .i64 o.y.re, .int .i64 o.y.im, .int .i64 o.y.den]) := rangeAt_below (rangeAt_new _ _ _) hb (by first | omega | (simp; done) | (simp <;> omega))
    have hz3 := hb.size
    (try simp at hz3)
    clear hb
    have nA0 : w1.heap.size < w3.heap.size := by omega
    have nB0 : ¬ w1.heap.size = w3.heap.size := by omega
    have nC0 : ¬ w3.heap.size = w1.heap.size := by omega
    have nA1 : w1.heap.size + 1 < w3.heap.size := by omega
    have nB1 : ¬ w1.heap.size + 1 = w3.heap.size := by omega
    have nC1 : ¬ w3.heap.size = w1.heap.size + 1 := by omega
    have nA2 : w2.heap.size < w3.heap.size := by omega
    have nB2 : ¬ w2.heap.size = w3.heap.size := by omega
    have nC2 : ¬ w3.heap.size = w2.heap.size := by omega
    have zo_0 : w3.cell? ⟨w2.heap.size, 0, none⟩ = some (.int .i64 o.x.re) := by have := Ho.out 0 _ rfl; rwa [Nat.zero_add] at this
    have zo_1 : w3.cell? ⟨w2.heap.size, 1, none⟩ = some (.int .i64 o.x.im) := by have := Ho.out 1 _ rfl; rwa [Nat.zero_add] at this
    have zo_2 : w3.cell? ⟨w2.heap.size, 2, none⟩ = some (.int .i64 o.x.den) := by have := Ho.out 2 _ rfl; rwa [Nat.zero_add] at this
    have zo_3 : w3.cell? ⟨w2.heap.size, 3, none⟩ = some (.int .i64 o.y.re) := by have := Ho.out 3 _ rfl; rwa [Nat.zero_add] at this
    have zo_4 : w3.cell? ⟨w2.heap.size, 4, none⟩ = some (.int .i64 o.y.im) := by have := Ho.out 4 _ rfl; rwa [Nat.zero_add] at this
    have zo_5 : w3.cell? ⟨w2.heap.size, 5, none⟩ = some (.int .i64 o.y.den) := by have := Ho.out 5 _ rfl; rwa [Nat.zero_add] at this
    go_wp2_with (first | ((with_reducible refine wpList_load_mid ?kl91 37 ?kl9x ?kl92 (w2.heap.size) 0 ?kl93 [.int .i64 o.x.re, .int .i64 o.x.im, .int .i64 o.x.den, .int .i64 o.y.re, .int .i64 o.y.im, .int .i64 o.y.den] ?kl9d ?kl94 ?kl95 ?kl96 ?kl97 ?kl98); (case kl92 => rfl); (case kl91 => rfl); (case kl93 => rfl); (case kl94 => (exact (World.rangeAt_alloc Ho.out _))); (case kl95 => exact Tryd.underlying37); (case kl96 => rfl); (case kl97 => kernel_rfl)))
    refine (ijpow o _).mono ?_
    rintro e w4 ho
    rw [HN.out] at ho
    obtain ⟨rfl, hb⟩ : e = .returned (.tuple #[.agg #[.int .i64 n.re, .int .i64 n.im, .int .i64 n.den], .bool p]) ∧ Below _ _ _ := ho.fn
    clear ho
    have HB := Lib.hid (show Below w.heap.size w w4 from HB.out.trans ((show Below _ _ _ from ((Below.refl _ _).alloc (by omega) _)).trans (hb.mono (by first | omega | (simp <;> omega)))))
    have Ha : Hid (w4.rangeAt (w1.heap.size) 0 [.int .i64 a.a.re, .int .i64 a.a.im, .int .i64 a.a.den, .int .i64 a.b.re, .int .i64 a.b.im, .int .i64 a.b.den, .int .i64 a.c.re, .int .i64 a.c.im, .int .i64 a.c.den, .int .i64 a.d.re, .int .i64 a.d.im, .int .i64 a.d.den]) := rangeAt_below (World.rangeAt_alloc Ha.out _) hb (by first | omega | (simp; done) | (simp <;> omega))
    have Hv : Hid (w4.rangeAt (w1.heap.size + 1) 0 [.int .i64 v.x.re, .int .i64 v.x.im, .int .i64 v.x.den, .int .i64 v.y.re, .int .i64 v.y.im, .int .i64 v.y.den]) := rangeAt_below (World.rangeAt_alloc Hv.out _) hb (by first | omega | (simp; done) | (simp <;> omega))
    have Ho : Hid (w4.rangeAt (w2.heap.size) 0 [.int .i64 o.x.re, .int .i64 o.x.im, .int .i64 o.x.den, .int .i64 o.y.re, .int .i64 o.y.im, .int .i64 o.y.den]) := rangeAt_below (World.rangeAt_alloc Ho.out _) hb (by first | omega | (simp; done) | (simp <;> omega))
    have Hq : Hid (w4.rangeAt w3.heap.size 0 [.int .i64 o.x.re, .int .i64 o.x.im, .int .i64 o.x.den, .int .i64 o.y.re, .int .i64 o.y.im, .int .i64 o.y.den]) := rangeAt_below (rangeAt_new _ _ _) hb (by first | omega | (simp; done) | (simp <;> omega))
    have hz4 := hb.size
    (try simp at hz4)
    clear hb
    have nA0 : w1.heap.size < w4.heap.size := by omega
    have nB0 : ¬ w1.heap.size = w4.heap.size := by omega
    have nC0 : ¬ w4.heap.size = w1.heap.size := by omega
    have nA1 : w1.heap.size + 1 < w4.heap.size := by omega
    have nB1 : ¬ w1.heap.size + 1 = w4.heap.size := by omega
    have nC1 : ¬ w4.heap.size = w1.heap.size + 1 := by omega
    have nA2 : w2.heap.size < w4.heap.size := by omega
    have nB2 : ¬ w2.heap.size = w4.heap.size := by omega
    have nC2 : ¬ w4.heap.size = w2.heap.size := by omega
    have nA3 : w3.heap.size < w4.heap.size := by omega
    have nB3 : ¬ w3.heap.size = w4.heap.size := by omega
    have nC3 : ¬ w4.heap.size = w3.heap.size := by omega
    go_wp2_with (first | ((with_reducible refine wpList_load_mid ?kl101 37 ?kl10x ?kl102 (w1.heap.size + 1) 0 ?kl103 [.int .i64 v.x.re, .int .i64 v.x.im, .int .i64 v.x.den, .int .i64 v.y.re, .int .i64 v.y.im, .int .i64 v.y.den] ?kl10d ?kl104 ?kl105 ?kl106 ?kl107 ?kl108); (case kl102 => rfl); (case kl101 => rfl); (case kl103 => rfl); (case kl104 => (exact (World.rangeAt_alloc Hv.out _))); (case kl105 => exact Tryd.underlying37); (case kl106 => rfl); (case kl107 => kernel_rfl)))
    refine (ijpow v _).mono ?_
    rintro e w5 ho
    rw [HM.out] at ho
    obtain ⟨rfl, hb⟩ : e = .returned (.tuple #[.agg #[.int .i64 m.re, .int .i64 m.im, .int .i64 m.den], .bool q]) ∧ Below _ _ _ := ho.fn
    clear ho
    have HB := Lib.hid (show Below w.heap.size w w5 from HB.out.trans ((show Below _ _ _ from ((Below.refl _ _).alloc (by omega) _)).trans (hb.mono (by first | omega | (simp <;> omega)))))
    have Ha : Hid (w5.rangeAt (w1.heap.size) 0 [.int .i64 a.a.re, .int .i64 a.a.im, .int .i64 a.a.den, .int .i64 a.b.re, .int .i64 a.b.im, .int .i64 a.b.den, .int .i64 a.c.re, .int .i64 a.c.im, .int .i64 a.c.den, .int .i64 a.d.re, .int .i64 a.d.im, .int .i64 a.d.den]) := rangeAt_below (World.rangeAt_alloc Ha.out _) hb (by first | omega | (simp; done) | (simp <;> omega))
    have Hv : Hid (w5.rangeAt (w1.heap.size + 1) 0 [.int .i64 v.x.re, .int .i64 v.x.im, .int .i64 v.x.den, .int .i64 v.y.re, .int .i64 v.y.im, .int .i64 v.y.den]) := rangeAt_below (World.rangeAt_alloc Hv.out _) hb (by first | omega | (simp; done) | (simp <;> omega))
    have Ho : Hid (w5.rangeAt (w2.heap.size) 0 [.int .i64 o.x.re, .int .i64 o.x.im, .int .i64 o.x.den, .int .i64 o.y.re, .int .i64 o.y.im, .int .i64 o.y.den]) := rangeAt_below (World.rangeAt_alloc Ho.out _) hb (by first | omega | (simp; done) | (simp <;> omega))
    have Hq : Hid (w5.rangeAt (w3.heap.size) 0 [.int .i64 o.x.re, .int .i64 o.x.im, .int .i64 o.x.den, .int .i64 o.y.re, .int .i64 o.y.im, .int .i64 o.y.den]) := rangeAt_below (World.rangeAt_alloc Hq.out _) hb (by first | omega | (simp; done) | (simp <;> omega))
    have Hn : Hid (w5.rangeAt w4.heap.size 0 [.int .i64 n.re, .int .i64 n.im, .int .i64 n.den]) := rangeAt_below (rangeAt_new _ _ _) hb (by first | omega | (simp; done) | (simp <;> omega))
    have hz5 := hb.size
    (try simp at hz5)
    clear hb
    have nA0 : w1.heap.size < w5.heap.size := by omega
    have nB0 : ¬ w1.heap.size = w5.heap.size := by omega
    have nC0 : ¬ w5.heap.size = w1.heap.size := by omega
    have nA1 : w1.heap.size + 1 < w5.heap.size := by omega
    have nB1 : ¬ w1.heap.size + 1 = w5.heap.size := by omega
    have nC1 : ¬ w5.heap.size = w1.heap.size + 1 := by omega
    have nA2 : w2.heap.size < w5.heap.size := by omega
    have nB2 : ¬ w2.heap.size = w5.heap.size := by omega
    have nC2 : ¬ w5.heap.size = w2.heap.size := by omega
    have nA3 : w3.heap.size < w5.heap.size := by omega
    have nB3 : ¬ w3.heap.size = w5.heap.size := by omega
    have nC3 : ¬ w5.heap.size = w3.heap.size := by omega
    have nA4 : w4.heap.size < w5.heap.size := by omega
    have nB4 : ¬ w4.heap.size = w5.heap.size := by omega
    have nC4 : ¬ w5.heap.size = w4.heap.size := by omega
    go_wp2_with (first | ((with_reducible refine wpList_load_mid ?kl111 45 ?kl11x ?kl112 (w1.heap.size) 0 ?kl113 [.int .i64 a.a.re, .int .i64 a.a.im, .int .i64 a.a.den, .int .i64 a.b.re, .int .i64 a.b.im, .int .i64 a.b.den, .int .i64 a.c.re, .int .i64 a.c.im, .int .i64 a.c.den, .int .i64 a.d.re, .int .i64 a.d.im, .int .i64 a.d.den] ?kl11d ?kl114 ?kl115 ?kl116 ?kl117 ?kl118); (case kl112 => rfl); (case kl111 => rfl); (case kl113 => rfl); (case kl114 => (exact (World.rangeAt_alloc Ha.out _))); (case kl115 => exact Tryd.underlying45); (case kl116 => rfl); (case kl117 => kernel_rfl)))
    refine (imatadj_any a _).mono ?_
    rintro e w6 ho
    rw [HA.out] at ho
    obtain ⟨rfl, hb⟩ : e = .returned (.tuple #[.agg #[.int .i64 c.a.re, .int .i64 c.a.im, .int .i64 c.a.den, .int .i64 c.b.re, .int .i64 c.b.im, .int .i64 c.b.den, .int .i64 c.c.re, .int .i64 c.c.im, .int .i64 c.c.den, .int .i64 c.d.re, .int .i64 c.d.im, .int .i64 c.d.den], .bool true]) ∧ Below _ _ _ := ho.fn
    clear ho
    have HB := Lib.hid (show Below w.heap.size w w6 from HB.out.trans ((show Below _ _ _ from ((Below.refl _ _).alloc (by omega) _)).trans (hb.mono (by first | omega | (simp <;> omega)))))
    have Ha : Hid (w6.rangeAt (w1.heap.size) 0 [.int .i64 a.a.re, .int .i64 a.a.im, .int .i64 a.a.den, .int .i64 a.b.re, .int .i64 a.b.im, .int .i64 a.b.den, .int .i64 a.c.re, .int .i64 a.c.im, .int .i64 a.c.den, .int .i64 a.d.re, .int .i64 a.d.im, .int .i64 a.d.den]) := rangeAt_below (World.rangeAt_alloc Ha.out _) hb (by first | omega | (simp; done) | (simp <;> omega))
    have Hv : Hid (w6.rangeAt (w1.heap.size + 1) 0 [.int .i64 v.x.re, .int .i64 v.x.im, .int .i64 v.x.den, .int .i64 v.y.re, .int .i64 v.y.im, .int .i64 v.y.den]) := rangeAt_below (World.rangeAt_alloc Hv.out _) hb (by first | omega | (simp; done) | (simp <;> omega))
    have Ho : Hid (w6.rangeAt (w2.heap.size) 0 [.int .i64 o.x.re, .int .i64 o.x.im, .int .i64 o.x.den, .int .i64 o.y.re, .int .i64 o.y.im, .int .i64 o.y.den]) := rangeAt_below (World.rangeAt_alloc Ho.out _) hb (by first | omega | (simp; done) | (simp <;> omega))
    have Hq : Hid (w6.rangeAt (w3.heap.size) 0 [.int .i64 o.x.re, .int .i64 o.x.im, .int .i64 o.x.den, .int .i64 o.y.re, .int .i64 o.y.im, .int .i64 o.y.den]) := rangeAt_below (World.rangeAt_alloc Hq.out _) hb (by first | omega | (simp; done) | (simp <;> omega))
    have Hn : Hid (w6.rangeAt (w4.heap.size) 0 [.int .i64 n.re, .int .i64 n.im, .int .i64 n.den]) := rangeAt_below (World.rangeAt_alloc Hn.out _) hb (by first | omega | (simp; done) | (simp <;> omega))
    have Hm : Hid (w6.rangeAt w5.heap.size 0 [.int .i64 m.re, .int .i64 m.im, .int .i64 m.den]) := rangeAt_below (rangeAt_new _ _ _) hb (by first | omega | (simp; done) | (simp <;> omega))
    have hz6 := hb.size
    (try simp at hz6)
    clear hb
    have nA0 : w1.heap.size < w6.heap.size := by omega
    have nB0 : ¬ w1.heap.size = w6.heap.size := by omega
    have nC0 : ¬ w6.heap.size = w1.heap.size := by omega
    have nA1 : w1.heap.size + 1 < w6.heap.size := by omega
    have nB1 : ¬ w1.heap.size + 1 = w6.heap.size := by omega
    have nC1 : ¬ w6.heap.size = w1.heap.size + 1 := by omega
    have nA2 : w2.heap.size < w6.heap.size := by omega
    have nB2 : ¬ w2.heap.size = w6.heap.size := by omega
    have nC2 : ¬ w6.heap.size = w2.heap.size := by omega
    have nA3 : w3.heap.size < w6.heap.size := by omega
    have nB3 : ¬ w3.heap.size = w6.heap.size := by omega
    have nC3 : ¬ w6.heap.size = w3.heap.size := by omega
    have nA4 : w4.heap.size < w6.heap.size := by omega
    have nB4 : ¬ w4.heap.size = w6.heap.size := by omega
    have nC4 : ¬ w6.heap.size = w4.heap.size := by omega
    have nA5 : w5.heap.size < w6.heap.size := by omega
    have nB5 : ¬ w5.heap.size = w6.heap.size := by omega
    have nC5 : ¬ w6.heap.size = w5.heap.size := by omega
    go_wp2_with (first | ((with_reducible refine wpList_load_mid ?kl121 45 ?kl12x ?kl122 (w6.heap.size) 0 ?kl123 [.int .i64 c.a.re, .int .i64 c.a.im, .int .i64 c.a.den, .int .i64 c.b.re, .int .i64 c.b.im, .int .i64 c.b.den, .int .i64 c.c.re, .int .i64 c.c.im, .int .i64 c.c.den, .int .i64 c.d.re, .int .i64 c.d.im, .int .i64 c.d.den] ?kl12d ?kl124 ?kl125 ?kl126 ?kl127 ?kl128); (case kl122 => rfl); (case kl121 => rfl); (case kl123 => rfl); (case kl124 => (exact (rangeAt_new _ _ _))); (case kl125 => exact Tryd.underlying45); (case kl126 => rfl); (case kl127 => kernel_rfl)) | ((with_reducible refine wpList_load_mid ?kl131 37 ?kl13x ?kl132 (w2.heap.size) 0 ?kl133 [.int .i64 o.x.re, .int .i64 o.x.im, .int .i64 o.x.den, .int .i64 o.y.re, .int .i64 o.y.im, .int .i64 o.y.den] ?kl13d ?kl134 ?kl135 ?kl136 ?kl137 ?kl138); (case kl132 => rfl); (case kl131 => rfl); (case kl133 => rfl); (case kl134 => (exact (World.rangeAt_alloc Ho.out _))); (case kl135 => exact Tryd.underlying37); (case kl136 => rfl); (case kl137 => kernel_rfl)))
    refine (imap_m c o _).mono ?_
    rintro e w7 ho
    rw [HBk.out] at ho
    obtain ⟨rfl, hb⟩ : e = .returned (.tuple #[.agg #[.int .i64 b.x.re, .int .i64 b.x.im, .int .i64 b.x.den, .int .i64 b.y.re, .int .i64 b.y.im, .int .i64 b.y.den], .bool s]) ∧ Below _ _ _ := ho.fn
    clear ho
    have HB := Lib.hid (show Below w.heap.size w w7 from HB.out.trans ((show Below _ _ _ from ((Below.refl _ _).alloc (by omega) _)).trans (hb.mono (by first | omega | (simp <;> omega)))))
    have Ha : Hid (w7.rangeAt (w1.heap.size) 0 [.int .i64 a.a.re, .int .i64 a.a.im, .int .i64 a.a.den, .int .i64 a.b.re, .int .i64 a.b.im, .int .i64 a.b.den, .int .i64 a.c.re, .int .i64 a.c.im, .int .i64 a.c.den, .int .i64 a.d.re, .int .i64 a.d.im, .int .i64 a.d.den]) := rangeAt_below (World.rangeAt_alloc Ha.out _) hb (by first | omega | (simp; done) | (simp <;> omega))
    have Hv : Hid (w7.rangeAt (w1.heap.size + 1) 0 [.int .i64 v.x.re, .int .i64 v.x.im, .int .i64 v.x.den, .int .i64 v.y.re, .int .i64 v.y.im, .int .i64 v.y.den]) := rangeAt_below (World.rangeAt_alloc Hv.out _) hb (by first | omega | (simp; done) | (simp <;> omega))
    have Ho : Hid (w7.rangeAt (w2.heap.size) 0 [.int .i64 o.x.re, .int .i64 o.x.im, .int .i64 o.x.den, .int .i64 o.y.re, .int .i64 o.y.im, .int .i64 o.y.den]) := rangeAt_below (World.rangeAt_alloc Ho.out _) hb (by first | omega | (simp; done) | (simp <;> omega))
    have Hq : Hid (w7.rangeAt (w3.heap.size) 0 [.int .i64 o.x.re, .int .i64 o.x.im, .int .i64 o.x.den, .int .i64 o.y.re, .int .i64 o.y.im, .int .i64 o.y.den]) := rangeAt_below (World.rangeAt_alloc Hq.out _) hb (by first | omega | (simp; done) | (simp <;> omega))
    have Hn : Hid (w7.rangeAt (w4.heap.size) 0 [.int .i64 n.re, .int .i64 n.im, .int .i64 n.den]) := rangeAt_below (World.rangeAt_alloc Hn.out _) hb (by first | omega | (simp; done) | (simp <;> omega))
    have Hm : Hid (w7.rangeAt (w5.heap.size) 0 [.int .i64 m.re, .int .i64 m.im, .int .i64 m.den]) := rangeAt_below (World.rangeAt_alloc Hm.out _) hb (by first | omega | (simp; done) | (simp <;> omega))
    have Had : Hid (w7.rangeAt w6.heap.size 0 [.int .i64 c.a.re, .int .i64 c.a.im, .int .i64 c.a.den, .int .i64 c.b.re, .int .i64 c.b.im, .int .i64 c.b.den, .int .i64 c.c.re, .int .i64 c.c.im, .int .i64 c.c.den, .int .i64 c.d.re, .int .i64 c.d.im, .int .i64 c.d.den]) := rangeAt_below (rangeAt_new _ _ _) hb (by first | omega | (simp; done) | (simp <;> omega))
    have hz7 := hb.size
    (try simp at hz7)
    clear hb
    have nA0 : w1.heap.size < w7.heap.size := by omega
    have nB0 : ¬ w1.heap.size = w7.heap.size := by omega
    have nC0 : ¬ w7.heap.size = w1.heap.size := by omega
    have nA1 : w1.heap.size + 1 < w7.heap.size := by omega
    have nB1 : ¬ w1.heap.size + 1 = w7.heap.size := by omega
    have nC1 : ¬ w7.heap.size = w1.heap.size + 1 := by omega
    have nA2 : w2.heap.size < w7.heap.size := by omega
    have nB2 : ¬ w2.heap.size = w7.heap.size := by omega
    have nC2 : ¬ w7.heap.size = w2.heap.size := by omega
    have nA3 : w3.heap.size < w7.heap.size := by omega
    have nB3 : ¬ w3.heap.size = w7.heap.size := by omega
    have nC3 : ¬ w7.heap.size = w3.heap.size := by omega
    have nA4 : w4.heap.size < w7.heap.size := by omega
    have nB4 : ¬ w4.heap.size = w7.heap.size := by omega
    have nC4 : ¬ w7.heap.size = w4.heap.size := by omega
    have nA5 : w5.heap.size < w7.heap.size := by omega
    have nB5 : ¬ w5.heap.size = w7.heap.size := by omega
    have nC5 : ¬ w7.heap.size = w5.heap.size := by omega
    have nA6 : w6.heap.size < w7.heap.size := by omega
    have nB6 : ¬ w6.heap.size = w7.heap.size := by omega
    have nC6 : ¬ w7.heap.size = w6.heap.size := by omega
    go_wp2_with (first | ((with_reducible refine wpList_load_mid ?kl141 37 ?kl14x ?kl142 (w1.heap.size + 1) 0 ?kl143 [.int .i64 v.x.re, .int .i64 v.x.im, .int .i64 v.x.den, .int .i64 v.y.re, .int .i64 v.y.im, .int .i64 v.y.den] ?kl14d ?kl144 ?kl145 ?kl146 ?kl147 ?kl148); (case kl142 => rfl); (case kl141 => rfl); (case kl143 => rfl); (case kl144 => (exact (World.rangeAt_alloc Hv.out _))); (case kl145 => exact Tryd.underlying37); (case kl146 => rfl); (case kl147 => kernel_rfl)) | ((with_reducible refine wpList_load_mid ?kl151 37 ?kl15x ?kl152 (w7.heap.size) 0 ?kl153 [.int .i64 b.x.re, .int .i64 b.x.im, .int .i64 b.x.den, .int .i64 b.y.re, .int .i64 b.y.im, .int .i64 b.y.den] ?kl15d ?kl154 ?kl155 ?kl156 ?kl157 ?kl158); (case kl152 => rfl); (case kl151 => rfl); (case kl153 => rfl); (case kl154 => (exact (rangeAt_new _ _ _))); (case kl155 => exact Tryd.underlying37); (case kl156 => rfl); (case kl157 => kernel_rfl)))
    refine (ijin v b _).mono ?_
    rintro e w8 ho
    rw [HI.out] at ho
    obtain ⟨rfl, hb⟩ : e = .returned (.tuple #[.agg #[.int .i64 x.re, .int .i64 x.im, .int .i64 x.den], .bool t]) ∧ Below _ _ _ := ho.fn
    clear ho
    have HB := Lib.hid (show Below w.heap.size w w8 from HB.out.trans ((show Below _ _ _ from ((Below.refl _ _).alloc (by omega) _)).trans (hb.mono (by first | omega | (simp <;> omega)))))
    have Ha : Hid (w8.rangeAt (w1.heap.size) 0 [.int .i64 a.a.re, .int .i64 a.a.im, .int .i64 a.a.den, .int .i64 a.b.re, .int .i64 a.b.im, .int .i64 a.b.den, .int .i64 a.c.re, .int .i64 a.c.im, .int .i64 a.c.den, .int .i64 a.d.re, .int .i64 a.d.im, .int .i64 a.d.den]) := rangeAt_below (World.rangeAt_alloc Ha.out _) hb (by first | omega | (simp; done) | (simp <;> omega))
    have Hv : Hid (w8.rangeAt (w1.heap.size + 1) 0 [.int .i64 v.x.re, .int .i64 v.x.im, .int .i64 v.x.den, .int .i64 v.y.re, .int .i64 v.y.im, .int .i64 v.y.den]) := rangeAt_below (World.rangeAt_alloc Hv.out _) hb (by first | omega | (simp; done) | (simp <;> omega))
    have Ho : Hid (w8.rangeAt (w2.heap.size) 0 [.int .i64 o.x.re, .int .i64 o.x.im, .int .i64 o.x.den, .int .i64 o.y.re, .int .i64 o.y.im, .int .i64 o.y.den]) := rangeAt_below (World.rangeAt_alloc Ho.out _) hb (by first | omega | (simp; done) | (simp <;> omega))
    have Hq : Hid (w8.rangeAt (w3.heap.size) 0 [.int .i64 o.x.re, .int .i64 o.x.im, .int .i64 o.x.den, .int .i64 o.y.re, .int .i64 o.y.im, .int .i64 o.y.den]) := rangeAt_below (World.rangeAt_alloc Hq.out _) hb (by first | omega | (simp; done) | (simp <;> omega))
    have Hn : Hid (w8.rangeAt (w4.heap.size) 0 [.int .i64 n.re, .int .i64 n.im, .int .i64 n.den]) := rangeAt_below (World.rangeAt_alloc Hn.out _) hb (by first | omega | (simp; done) | (simp <;> omega))
    have Hm : Hid (w8.rangeAt (w5.heap.size) 0 [.int .i64 m.re, .int .i64 m.im, .int .i64 m.den]) := rangeAt_below (World.rangeAt_alloc Hm.out _) hb (by first | omega | (simp; done) | (simp <;> omega))
    have Had : Hid (w8.rangeAt (w6.heap.size) 0 [.int .i64 c.a.re, .int .i64 c.a.im, .int .i64 c.a.den, .int .i64 c.b.re, .int .i64 c.b.im, .int .i64 c.b.den, .int .i64 c.c.re, .int .i64 c.c.im, .int .i64 c.c.den, .int .i64 c.d.re, .int .i64 c.d.im, .int .i64 c.d.den]) := rangeAt_below (World.rangeAt_alloc Had.out _) hb (by first | omega | (simp; done) | (simp <;> omega))
    have Hbb : Hid (w8.rangeAt w7.heap.size 0 [.int .i64 b.x.re, .int .i64 b.x.im, .int .i64 b.x.den, .int .i64 b.y.re, .int .i64 b.y.im, .int .i64 b.y.den]) := rangeAt_below (rangeAt_new _ _ _) hb (by first | omega | (simp; done) | (simp <;> omega))
    have hz8 := hb.size
    (try simp at hz8)
    clear hb
    have nA0 : w1.heap.size < w8.heap.size := by omega
    have nB0 : ¬ w1.heap.size = w8.heap.size := by omega
    have nC0 : ¬ w8.heap.size = w1.heap.size := by omega
    have nA1 : w1.heap.size + 1 < w8.heap.size := by omega
    have nB1 : ¬ w1.heap.size + 1 = w8.heap.size := by omega
    have nC1 : ¬ w8.heap.size = w1.heap.size + 1 := by omega
    have nA2 : w2.heap.size < w8.heap.size := by omega
    have nB2 : ¬ w2.heap.size = w8.heap.size := by omega
    have nC2 : ¬ w8.heap.size = w2.heap.size := by omega
    have nA3 : w3.heap.size < w8.heap.size := by omega
    have nB3 : ¬ w3.heap.size = w8.heap.size := by omega
    have nC3 : ¬ w8.heap.size = w3.heap.size := by omega
    have nA4 : w4.heap.size < w8.heap.size := by omega
    have nB4 : ¬ w4.heap.size = w8.heap.size := by omega
    have nC4 : ¬ w8.heap.size = w4.heap.size := by omega
    have nA5 : w5.heap.size < w8.heap.size := by omega
    have nB5 : ¬ w5.heap.size = w8.heap.size := by omega
    have nC5 : ¬ w8.heap.size = w5.heap.size := by omega
    have nA6 : w6.heap.size < w8.heap.size := by omega
    have nB6 : ¬ w6.heap.size = w8.heap.size := by omega
    have nC6 : ¬ w8.heap.size = w6.heap.size := by omega
    have nA7 : w7.heap.size < w8.heap.size := by omega
    have nB7 : ¬ w7.heap.size = w8.heap.size := by omega
    have nC7 : ¬ w8.heap.size = w7.heap.size := by omega
    cases hl : gLos a
    · skip
      go_wp2_with (first | ((with_reducible refine wpList_load_mid ?kl161 45 ?kl16x ?kl162 (w1.heap.size) 0 ?kl163 [.int .i64 a.a.re, .int .i64 a.a.im, .int .i64 a.a.den, .int .i64 a.b.re, .int .i64 a.b.im, .int .i64 a.b.den, .int .i64 a.c.re, .int .i64 a.c.im, .int .i64 a.c.den, .int .i64 a.d.re, .int .i64 a.d.im, .int .i64 a.d.den] ?kl16d ?kl164 ?kl165 ?kl166 ?kl167 ?kl168); (case kl162 => rfl); (case kl161 => rfl); (case kl163 => rfl); (case kl164 => (exact (World.rangeAt_alloc Ha.out _))); (case kl165 => exact Tryd.underlying45); (case kl166 => rfl); (case kl167 => kernel_rfl)))
      refine (ilos_any a _ (HG_same.out.below (Below.alloc HB.out (by first | omega | (simp; done) | (simp <;> omega)) _))).mono ?_
      rintro e w9 ho
      rw [hl] at ho
      obtain ⟨rfl, hb⟩ : e = .returned (.bool false) ∧ Below _ _ _ := (id ho)
      clear ho
      have HB := Lib.hid (show Below w.heap.size w w9 from HB.out.trans ((show Below _ _ _ from ((Below.refl _ _).alloc (by omega) _)).trans (hb.mono (by first | omega | (simp <;> omega)))))
      have Ha : Hid (w9.rangeAt (w1.heap.size) 0 [.int .i64 a.a.re, .int .i64 a.a.im, .int .i64 a.a.den, .int .i64 a.b.re, .int .i64 a.b.im, .int .i64 a.b.den, .int .i64 a.c.re, .int .i64 a.c.im, .int .i64 a.c.den, .int .i64 a.d.re, .int .i64 a.d.im, .int .i64 a.d.den]) := rangeAt_below (World.rangeAt_alloc Ha.out _) hb (by first | omega | (simp; done) | (simp <;> omega))
      have Hv : Hid (w9.rangeAt (w1.heap.size + 1) 0 [.int .i64 v.x.re, .int .i64 v.x.im, .int .i64 v.x.den, .int .i64 v.y.re, .int .i64 v.y.im, .int .i64 v.y.den]) := rangeAt_below (World.rangeAt_alloc Hv.out _) hb (by first | omega | (simp; done) | (simp <;> omega))
      have Ho : Hid (w9.rangeAt (w2.heap.size) 0 [.int .i64 o.x.re, .int .i64 o.x.im, .int .i64 o.x.den, .int .i64 o.y.re, .int .i64 o.y.im, .int .i64 o.y.den]) := rangeAt_below (World.rangeAt_alloc Ho.out _) hb (by first | omega | (simp; done) | (simp <;> omega))
      have Hq : Hid (w9.rangeAt (w3.heap.size) 0 [.int .i64 o.x.re, .int .i64 o.x.im, .int .i64 o.x.den, .int .i64 o.y.re, .int .i64 o.y.im, .int .i64 o.y.den]) := rangeAt_below (World.rangeAt_alloc Hq.out _) hb (by first | omega | (simp; done) | (simp <;> omega))
      have Hn : Hid (w9.rangeAt (w4.heap.size) 0 [.int .i64 n.re, .int .i64 n.im, .int .i64 n.den]) := rangeAt_below (World.rangeAt_alloc Hn.out _) hb (by first | omega | (simp; done) | (simp <;> omega))
      have Hm : Hid (w9.rangeAt (w5.heap.size) 0 [.int .i64 m.re, .int .i64 m.im, .int .i64 m.den]) := rangeAt_below (World.rangeAt_alloc Hm.out _) hb (by first | omega | (simp; done) | (simp <;> omega))
      have Had : Hid (w9.rangeAt (w6.heap.size) 0 [.int .i64 c.a.re, .int .i64 c.a.im, .int .i64 c.a.den, .int .i64 c.b.re, .int .i64 c.b.im, .int .i64 c.b.den, .int .i64 c.c.re, .int .i64 c.c.im, .int .i64 c.c.den, .int .i64 c.d.re, .int .i64 c.d.im, .int .i64 c.d.den]) := rangeAt_below (World.rangeAt_alloc Had.out _) hb (by first | omega | (simp; done) | (simp <;> omega))
      have Hbb : Hid (w9.rangeAt (w7.heap.size) 0 [.int .i64 b.x.re, .int .i64 b.x.im, .int .i64 b.x.den, .int .i64 b.y.re, .int .i64 b.y.im, .int .i64 b.y.den]) := rangeAt_below (World.rangeAt_alloc Hbb.out _) hb (by first | omega | (simp; done) | (simp <;> omega))
      have Hx : Hid (w9.rangeAt w8.heap.size 0 [.int .i64 x.re, .int .i64 x.im, .int .i64 x.den]) := rangeAt_below (rangeAt_new _ _ _) hb (by first | omega | (simp; done) | (simp <;> omega))
      have hz9 := hb.size
      (try simp at hz9)
      clear hb
      have nA0 : w1.heap.size < w9.heap.size := by omega
      have nB0 : ¬ w1.heap.size = w9.heap.size := by omega
      have nC0 : ¬ w9.heap.size = w1.heap.size := by omega
      have nA1 : w1.heap.size + 1 < w9.heap.size := by omega
      have nB1 : ¬ w1.heap.size + 1 = w9.heap.size := by omega
      have nC1 : ¬ w9.heap.size = w1.heap.size + 1 := by omega
      have nA2 : w2.heap.size < w9.heap.size := by omega
      have nB2 : ¬ w2.heap.size = w9.heap.size := by omega
      have nC2 : ¬ w9.heap.size = w2.heap.size := by omega
      have nA3 : w3.heap.size < w9.heap.size := by omega
      have nB3 : ¬ w3.heap.size = w9.heap.size := by omega
      have nC3 : ¬ w9.heap.size = w3.heap.size := by omega
      have nA4 : w4.heap.size < w9.heap.size := by omega
      have nB4 : ¬ w4.heap.size = w9.heap.size := by omega
      have nC4 : ¬ w9.heap.size = w4.heap.size := by omega
      have nA5 : w5.heap.size < w9.heap.size := by omega
      have nB5 : ¬ w5.heap.size = w9.heap.size := by omega
      have nC5 : ¬ w9.heap.size = w5.heap.size := by omega
      have nA6 : w6.heap.size < w9.heap.size := by omega
      have nB6 : ¬ w6.heap.size = w9.heap.size := by omega
      have nC6 : ¬ w9.heap.size = w6.heap.size := by omega
      have nA7 : w7.heap.size < w9.heap.size := by omega
      have nB7 : ¬ w7.heap.size = w9.heap.size := by omega
      have nC7 : ¬ w9.heap.size = w7.heap.size := by omega
      have nA8 : w8.heap.size < w9.heap.size := by omega
      have nB8 : ¬ w8.heap.size = w9.heap.size := by omega
      have nC8 : ¬ w9.heap.size = w8.heap.size := by omega
      have zn_0 : w9.cell? ⟨w4.heap.size, 0, none⟩ = some (.int .i64 n.re) := by have := Hn.out 0 _ rfl; rwa [Nat.zero_add] at this
      have zn_1 : w9.cell? ⟨w4.heap.size, 1, none⟩ = some (.int .i64 n.im) := by have := Hn.out 1 _ rfl; rwa [Nat.zero_add] at this
      have zn_2 : w9.cell? ⟨w4.heap.size, 2, none⟩ = some (.int .i64 n.den) := by have := Hn.out 2 _ rfl; rwa [Nat.zero_add] at this
      have zm_0 : w9.cell? ⟨w5.heap.size, 0, none⟩ = some (.int .i64 m.re) := by have := Hm.out 0 _ rfl; rwa [Nat.zero_add] at this
      have zm_1 : w9.cell? ⟨w5.heap.size, 1, none⟩ = some (.int .i64 m.im) := by have := Hm.out 1 _ rfl; rwa [Nat.zero_add] at this
      have zm_2 : w9.cell? ⟨w5.heap.size, 2, none⟩ = some (.int .i64 m.den) := by have := Hm.out 2 _ rfl; rwa [Nat.zero_add] at this
      have zx_0 : w9.cell? ⟨w8.heap.size, 0, none⟩ = some (.int .i64 x.re) := by have := Hx.out 0 _ rfl; rwa [Nat.zero_add] at this
      have zx_1 : w9.cell? ⟨w8.heap.size, 1, none⟩ = some (.int .i64 x.im) := by have := Hx.out 1 _ rfl; rwa [Nat.zero_add] at this
      have zx_2 : w9.cell? ⟨w8.heap.size, 2, none⟩ = some (.int .i64 x.den) := by have := Hx.out 2 _ rfl; rwa [Nat.zero_add] at this
      cases q
      · skip
        cases p
        · skip
          go_wp2_with fail
          go_ret
          exact ⟨rfl, (by (repeat' first | (with_reducible exact HB.out) | with_reducible refine setCells_below _ _ _ ?_ (by first | omega | (simp <;> omega)) | with_reducible refine Below.setCell ?_ (by show _ ≤ _; first | omega | (simp <;> omega) | simp) _ | with_reducible refine Below.alloc ?_ (by first | omega | (simp <;> omega)) _ | with_reducible apply Below.drew))⟩
        cases s
        · skip
          go_wp2_with fail
          go_ret
          exact ⟨rfl, (by (repeat' first | (with_reducible exact HB.out) | with_reducible refine setCells_below _ _ _ ?_ (by first | omega | (simp <;> omega)) | with_reducible refine Below.setCell ?_ (by show _ ≤ _; first | omega | (simp <;> omega) | simp) _ | with_reducible refine Below.alloc ?_ (by first | omega | (simp <;> omega)) _ | with_reducible apply Below.drew))⟩
        cases t
        · skip
          go_wp2_with fail
          go_ret
          exact ⟨rfl, (by (repeat' first | (with_reducible exact HB.out) | with_reducible refine setCells_below _ _ _ ?_ (by first | omega | (simp <;> omega)) | with_reducible refine Below.setCell ?_ (by show _ ≤ _; first | omega | (simp <;> omega) | simp) _ | with_reducible refine Below.alloc ?_ (by first | omega | (simp <;> omega)) _ | with_reducible apply Below.drew))⟩
        have e := HX.out rfl rfl rfl
        subst e
        go_wp2_with fail
        go_ret
        exact ⟨rfl, (by (repeat' first | (with_reducible exact HB.out) | with_reducible refine setCells_below _ _ _ ?_ (by first | omega | (simp <;> omega)) | with_reducible refine Below.setCell ?_ (by show _ ≤ _; first | omega | (simp <;> omega) | simp) _ | with_reducible refine Below.alloc ?_ (by first | omega | (simp <;> omega)) _ | with_reducible apply Below.drew))⟩
      · skip
        cases p
        · skip
          go_wp2_with fail
          go_ret
          exact ⟨rfl, (by (repeat' first | (with_reducible exact HB.out) | with_reducible refine setCells_below _ _ _ ?_ (by first | omega | (simp <;> omega)) | with_reducible refine Below.setCell ?_ (by show _ ≤ _; first | omega | (simp <;> omega) | simp) _ | with_reducible refine Below.alloc ?_ (by first | omega | (simp <;> omega)) _ | with_reducible apply Below.drew))⟩
        cases s
        · skip
          go_wp2_with fail
          go_ret
          exact ⟨rfl, (by (repeat' first | (with_reducible exact HB.out) | with_reducible refine setCells_below _ _ _ ?_ (by first | omega | (simp <;> omega)) | with_reducible refine Below.setCell ?_ (by show _ ≤ _; first | omega | (simp <;> omega) | simp) _ | with_reducible refine Below.alloc ?_ (by first | omega | (simp <;> omega)) _ | with_reducible apply Below.drew))⟩
        cases t
        · skip
          go_wp2_with fail
          go_ret
          exact ⟨rfl, (by (repeat' first | (with_reducible exact HB.out) | with_reducible refine setCells_below _ _ _ ?_ (by first | omega | (simp <;> omega)) | with_reducible refine Below.setCell ?_ (by show _ ≤ _; first | omega | (simp <;> omega) | simp) _ | with_reducible refine Below.alloc ?_ (by first | omega | (simp <;> omega)) _ | with_reducible apply Below.drew))⟩
        have e := HX.out rfl rfl rfl
        subst e
        go_wp2_with fail
        go_ret
        exact ⟨rfl, (by (repeat' first | (with_reducible exact HB.out) | with_reducible refine setCells_below _ _ _ ?_ (by first | omega | (simp <;> omega)) | with_reducible refine Below.setCell ?_ (by show _ ≤ _; first | omega | (simp <;> omega) | simp) _ | with_reducible refine Below.alloc ?_ (by first | omega | (simp <;> omega)) _ | with_reducible apply Below.drew))⟩
    · skip
      go_wp2_with (first | ((with_reducible refine wpList_load_mid ?kl171 45 ?kl17x ?kl172 (w1.heap.size) 0 ?kl173 [.int .i64 a.a.re, .int .i64 a.a.im, .int .i64 a.a.den, .int .i64 a.b.re, .int .i64 a.b.im, .int .i64 a.b.den, .int .i64 a.c.re, .int .i64 a.c.im, .int .i64 a.c.den, .int .i64 a.d.re, .int .i64 a.d.im, .int .i64 a.d.den] ?kl17d ?kl174 ?kl175 ?kl176 ?kl177 ?kl178); (case kl172 => rfl); (case kl171 => rfl); (case kl173 => rfl); (case kl174 => (exact (World.rangeAt_alloc Ha.out _))); (case kl175 => exact Tryd.underlying45); (case kl176 => rfl); (case kl177 => kernel_rfl)))
      refine (ilos_any a _ (HG_same.out.below (Below.alloc HB.out (by first | omega | (simp; done) | (simp <;> omega)) _))).mono ?_
      rintro e w9 ho
      rw [hl] at ho
      obtain ⟨rfl, hb⟩ : e = .returned (.bool true) ∧ Below _ _ _ := (id ho)
      clear ho
      have HB := Lib.hid (show Below w.heap.size w w9 from HB.out.trans ((show Below _ _ _ from ((Below.refl _ _).alloc (by omega) _)).trans (hb.mono (by first | omega | (simp <;> omega)))))
      have Ha : Hid (w9.rangeAt (w1.heap.size) 0 [.int .i64 a.a.re, .int .i64 a.a.im, .int .i64 a.a.den, .int .i64 a.b.re, .int .i64 a.b.im, .int .i64 a.b.den, .int .i64 a.c.re, .int .i64 a.c.im, .int .i64 a.c.den, .int .i64 a.d.re, .int .i64 a.d.im, .int .i64 a.d.den]) := rangeAt_below (World.rangeAt_alloc Ha.out _) hb (by first | omega | (simp; done) | (simp <;> omega))
      have Hv : Hid (w9.rangeAt (w1.heap.size + 1) 0 [.int .i64 v.x.re, .int .i64 v.x.im, .int .i64 v.x.den, .int .i64 v.y.re, .int .i64 v.y.im, .int .i64 v.y.den]) := rangeAt_below (World.rangeAt_alloc Hv.out _) hb (by first | omega | (simp; done) | (simp <;> omega))
      have Ho : Hid (w9.rangeAt (w2.heap.size) 0 [.int .i64 o.x.re, .int .i64 o.x.im, .int .i64 o.x.den, .int .i64 o.y.re, .int .i64 o.y.im, .int .i64 o.y.den]) := rangeAt_below (World.rangeAt_alloc Ho.out _) hb (by first | omega | (simp; done) | (simp <;> omega))
      have Hq : Hid (w9.rangeAt (w3.heap.size) 0 [.int .i64 o.x.re, .int .i64 o.x.im, .int .i64 o.x.den, .int .i64 o.y.re, .int .i64 o.y.im, .int .i64 o.y.den]) := rangeAt_below (World.rangeAt_alloc Hq.out _) hb (by first | omega | (simp; done) | (simp <;> omega))
      have Hn : Hid (w9.rangeAt (w4.heap.size) 0 [.int .i64 n.re, .int .i64 n.im, .int .i64 n.den]) := rangeAt_below (World.rangeAt_alloc Hn.out _) hb (by first | omega | (simp; done) | (simp <;> omega))
      have Hm : Hid (w9.rangeAt (w5.heap.size) 0 [.int .i64 m.re, .int .i64 m.im, .int .i64 m.den]) := rangeAt_below (World.rangeAt_alloc Hm.out _) hb (by first | omega | (simp; done) | (simp <;> omega))
      have Had : Hid (w9.rangeAt (w6.heap.size) 0 [.int .i64 c.a.re, .int .i64 c.a.im, .int .i64 c.a.den, .int .i64 c.b.re, .int .i64 c.b.im, .int .i64 c.b.den, .int .i64 c.c.re, .int .i64 c.c.im, .int .i64 c.c.den, .int .i64 c.d.re, .int .i64 c.d.im, .int .i64 c.d.den]) := rangeAt_below (World.rangeAt_alloc Had.out _) hb (by first | omega | (simp; done) | (simp <;> omega))
      have Hbb : Hid (w9.rangeAt (w7.heap.size) 0 [.int .i64 b.x.re, .int .i64 b.x.im, .int .i64 b.x.den, .int .i64 b.y.re, .int .i64 b.y.im, .int .i64 b.y.den]) := rangeAt_below (World.rangeAt_alloc Hbb.out _) hb (by first | omega | (simp; done) | (simp <;> omega))
      have Hx : Hid (w9.rangeAt w8.heap.size 0 [.int .i64 x.re, .int .i64 x.im, .int .i64 x.den]) := rangeAt_below (rangeAt_new _ _ _) hb (by first | omega | (simp; done) | (simp <;> omega))
      have hz9 := hb.size
      (try simp at hz9)
      clear hb
      have nA0 : w1.heap.size < w9.heap.size := by omega
      have nB0 : ¬ w1.heap.size = w9.heap.size := by omega
      have nC0 : ¬ w9.heap.size = w1.heap.size := by omega
      have nA1 : w1.heap.size + 1 < w9.heap.size := by omega
      have nB1 : ¬ w1.heap.size + 1 = w9.heap.size := by omega
      have nC1 : ¬ w9.heap.size = w1.heap.size + 1 := by omega
      have nA2 : w2.heap.size < w9.heap.size := by omega
      have nB2 : ¬ w2.heap.size = w9.heap.size := by omega
      have nC2 : ¬ w9.heap.size = w2.heap.size := by omega
      have nA3 : w3.heap.size < w9.heap.size := by omega
      have nB3 : ¬ w3.heap.size = w9.heap.size := by omega
      have nC3 : ¬ w9.heap.size = w3.heap.size := by omega
      have nA4 : w4.heap.size < w9.heap.size := by omega
      have nB4 : ¬ w4.heap.size = w9.heap.size := by omega
      have nC4 : ¬ w9.heap.size = w4.heap.size := by omega
      have nA5 : w5.heap.size < w9.heap.size := by omega
      have nB5 : ¬ w5.heap.size = w9.heap.size := by omega
      have nC5 : ¬ w9.heap.size = w5.heap.size := by omega
      have nA6 : w6.heap.size < w9.heap.size := by omega
      have nB6 : ¬ w6.heap.size = w9.heap.size := by omega
      have nC6 : ¬ w9.heap.size = w6.heap.size := by omega
      have nA7 : w7.heap.size < w9.heap.size := by omega
      have nB7 : ¬ w7.heap.size = w9.heap.size := by omega
      have nC7 : ¬ w9.heap.size = w7.heap.size := by omega
      have nA8 : w8.heap.size < w9.heap.size := by omega
      have nB8 : ¬ w8.heap.size = w9.heap.size := by omega
      have nC8 : ¬ w9.heap.size = w8.heap.size := by omega
      have zn_0 : w9.cell? ⟨w4.heap.size, 0, none⟩ = some (.int .i64 n.re) := by have := Hn.out 0 _ rfl; rwa [Nat.zero_add] at this
      have zn_1 : w9.cell? ⟨w4.heap.size, 1, none⟩ = some (.int .i64 n.im) := by have := Hn.out 1 _ rfl; rwa [Nat.zero_add] at this
      have zn_2 : w9.cell? ⟨w4.heap.size, 2, none⟩ = some (.int .i64 n.den) := by have := Hn.out 2 _ rfl; rwa [Nat.zero_add] at this
      have zm_0 : w9.cell? ⟨w5.heap.size, 0, none⟩ = some (.int .i64 m.re) := by have := Hm.out 0 _ rfl; rwa [Nat.zero_add] at this
      have zm_1 : w9.cell? ⟨w5.heap.size, 1, none⟩ = some (.int .i64 m.im) := by have := Hm.out 1 _ rfl; rwa [Nat.zero_add] at this
      have zm_2 : w9.cell? ⟨w5.heap.size, 2, none⟩ = some (.int .i64 m.den) := by have := Hm.out 2 _ rfl; rwa [Nat.zero_add] at this
      have zx_0 : w9.cell? ⟨w8.heap.size, 0, none⟩ = some (.int .i64 x.re) := by have := Hx.out 0 _ rfl; rwa [Nat.zero_add] at this
      have zx_1 : w9.cell? ⟨w8.heap.size, 1, none⟩ = some (.int .i64 x.im) := by have := Hx.out 1 _ rfl; rwa [Nat.zero_add] at this
      have zx_2 : w9.cell? ⟨w8.heap.size, 2, none⟩ = some (.int .i64 x.den) := by have := Hx.out 2 _ rfl; rwa [Nat.zero_add] at this
      cases q
      · skip
        cases p
        · skip
          go_wp2_with fail
          go_ret
          exact ⟨rfl, (by (repeat' first | (with_reducible exact HB.out) | with_reducible refine setCells_below _ _ _ ?_ (by first | omega | (simp <;> omega)) | with_reducible refine Below.setCell ?_ (by show _ ≤ _; first | omega | (simp <;> omega) | simp) _ | with_reducible refine Below.alloc ?_ (by first | omega | (simp <;> omega)) _ | with_reducible apply Below.drew))⟩
        cases s
        · skip
          go_wp2_with fail
          go_ret
          exact ⟨rfl, (by (repeat' first | (with_reducible exact HB.out) | with_reducible refine setCells_below _ _ _ ?_ (by first | omega | (simp <;> omega)) | with_reducible refine Below.setCell ?_ (by show _ ≤ _; first | omega | (simp <;> omega) | simp) _ | with_reducible refine Below.alloc ?_ (by first | omega | (simp <;> omega)) _ | with_reducible apply Below.drew))⟩
        cases t
        · skip
          go_wp2_with fail
          go_ret
          exact ⟨rfl, (by (repeat' first | (with_reducible exact HB.out) | with_reducible refine setCells_below _ _ _ ?_ (by first | omega | (simp <;> omega)) | with_reducible refine Below.setCell ?_ (by show _ ≤ _; first | omega | (simp <;> omega) | simp) _ | with_reducible refine Below.alloc ?_ (by first | omega | (simp <;> omega)) _ | with_reducible apply Below.drew))⟩
        have e := HX.out rfl rfl rfl
        subst e
        go_wp2_with fail
        go_ret
        exact ⟨rfl, (by (repeat' first | (with_reducible exact HB.out) | with_reducible refine setCells_below _ _ _ ?_ (by first | omega | (simp <;> omega)) | with_reducible refine Below.setCell ?_ (by show _ ≤ _; first | omega | (simp <;> omega) | simp) _ | with_reducible refine Below.alloc ?_ (by first | omega | (simp <;> omega)) _ | with_reducible apply Below.drew))⟩
      cases p
      · skip
        go_wp2_with fail
        go_ret
        exact ⟨rfl, (by (repeat' first | (with_reducible exact HB.out) | with_reducible refine setCells_below _ _ _ ?_ (by first | omega | (simp <;> omega)) | with_reducible refine Below.setCell ?_ (by show _ ≤ _; first | omega | (simp <;> omega) | simp) _ | with_reducible refine Below.alloc ?_ (by first | omega | (simp <;> omega)) _ | with_reducible apply Below.drew))⟩
      have e0 := HK.out rfl rfl hl
      subst e0
      cases s
      · skip
        go_wp2_with fail
        go_ret
        exact ⟨rfl, (by (repeat' first | (with_reducible exact HB.out) | with_reducible refine setCells_below _ _ _ ?_ (by first | omega | (simp <;> omega)) | with_reducible refine Below.setCell ?_ (by show _ ≤ _; first | omega | (simp <;> omega) | simp) _ | with_reducible refine Below.alloc ?_ (by first | omega | (simp <;> omega)) _ | with_reducible apply Below.drew))⟩
      cases t
      · skip
        go_wp2_with fail
        go_ret
        exact ⟨rfl, (by (repeat' first | (with_reducible exact HB.out) | with_reducible refine setCells_below _ _ _ ?_ (by first | omega | (simp <;> omega)) | with_reducible refine Below.setCell ?_ (by show _ ≤ _; first | omega | (simp <;> omega) | simp) _ | with_reducible refine Below.alloc ?_ (by first | omega | (simp <;> omega)) _ | with_reducible apply Below.drew))⟩
      have e := HX.out rfl rfl rfl
      subst e
      go_wp2_with fail
      go_ret
      exact ⟨rfl, (by (repeat' first | (with_reducible exact HB.out) | with_reducible refine setCells_below _ _ _ ?_ (by first | omega | (simp <;> omega)) | with_reducible refine Below.setCell ?_ (by show _ ≤ _; first | omega | (simp <;> omega) | simp) _ | with_reducible refine Below.alloc ?_ (by first | omega | (simp <;> omega)) _ | with_reducible apply Below.drew))⟩

set_option maxRecDepth 100000 in
theorem door_FnApply (os : Os) (args : Array Value) : laidMetH Tryd.prog Rows.fnApplyRow.laid ((World.doorLaid Tryd.prog 43 os).forCall (fun _ _ => 0) ⟨#[], args, []⟩).memory :=
  laidMetH_of_parts3 (fuel := 8) (laidMet_of_run' 8 (by kernel_rfl) (by kernel_rfl)) (by kernel_rfl) (by kernel_rfl)
set_option maxRecDepth 100000 in
theorem lifted_FnApply (os : Os) (started : os.Started) (H : Type) (enc : TypeId × Value → H) :
    ReturnsInHanded {} Tryd.checked os 10 .any (fun w args => (Rows.fnApplySpec.pre enc Tryd.prog Tryd.f10 [] false w args ∧ laidMetH Tryd.prog Rows.fnApplyRow.laid w) ∧ sizedMet enc Tryd.prog Tryd.f10 (OpenSpec.ofChange Rows.fnApplySpec) false w args) (Rows.fnApplySpec.post enc Tryd.prog Tryd.f10 false true false false) := by
  refine returnsInHanded_of_change_and (C := Tryd.checked) (X := fun w _ => laidMetH Tryd.prog Rows.fnApplyRow.laid w) (fun _ _ _ hh h => h.of_heap hh) Tryd.own started (by kernel_rfl) Tryd.func10
    (ChangeSpec.witness_shaped (enc := enc) (C := Tryd.checked) (os := os) (X := fun w _ => laidMetH Tryd.prog Rows.fnApplyRow.laid w) false (World.doorLaid Tryd.prog 43 os) #[.slice none 0 0] 8 rfl (World.shaped_of_RefB (by kernel_rfl) (by kernel_rfl)) (by kernel_rfl) (by kernel_rfl) (by kernel_rfl) (door_FnApply os _)) ?_
  intro W base args ds gs before hval0 hW _ _ hL _
  have hval : ∀ (j : Nat) t v, Tryd.f10.params[j]? = some t → args[j]? = some v → Value.okWide Tryd.prog W .any base t v := hval0
  have hW' := hW
  obtain ⟨p, q, hA0, hV, rfl, hfz, hnd⟩ := hW
  have hA : DataW.TrodAll enc Tryd.prog W 0 (fun _ => true) true Tryd.f10.params.toList args.toList ds p := hA0
  rw [Tryd.params10] at hA hval
  obtain ⟨v0, d0, rfl, rfl, h0⟩ := trodAll_one hA
  obtain ⟨g0, rfl⟩ := len1 (vars_len hV)
  have hG_same := gat_same hL (by decide) (by simp [Rows.fnApplyRow, Rows.laid_loop_example_polarisedlight_impl_same])
  have h0k := h0
  obtain ⟨fuel, hf⟩ := h0
  clear hA0 hval0
  have hlt : ∀ x ∈ p, x.block < W.heap.size := fun x hx => by simpa using hW'.lt x (List.mem_append_left _ hx)
  obtain ⟨a0, len, cap, rfl⟩ := okWide_slice Tryd.underlying22 (hval 0 22 v0 rfl rfl)
  obtain ⟨hcap, HC⟩ := open_code hf hlt
  refine (walk_FnApply a0 len cap W hcap HC hG_same).mono fun e W' ⟨he, hb⟩ => ?_
  subst he
  refine ⟨_, rfl, _, _, _, [], p, q, hW', trodAll_mk1 (shut_bool Tryd.underlying4 _), trodAll_mk1 (Below.trod Tryd.laidOut (by kernel_rfl) (of_decide_eq_true (by kernel_rfl)) h0k hb (fun x hx => hlt x (by simp [hx]))), Below.trodVars Tryd.laidOut hb (by kernel_rfl) hV, hb.frame _, fun h => by cases h⟩
theorem said_FnApply : Rows.FnApplySaid :=
  OpenClaim.holds_of_wide 10 Tryd.f10 rfl rfl rfl rfl rfl rfl rfl ⟨rfl, rfl, rfl, rfl, rfl⟩ rfl rfl rfl rfl rfl (by kernel_rfl) Tryd.func10 (by kernel_rfl)
    (of_decide_eq_true (by kernel_rfl)) (by unfold Func.isWrapper; first | (rw [if_pos (by decide +kernel)]; kernel_rfl) | (rw [if_neg (by decide +kernel)]; exact ⟨rfl, rfl⟩))
    (fun os started H enc _ => lifted_FnApply os started H enc)
set_option maxRecDepth 100000 in
/-- THE STATEMENT: THE CARD. -/
theorem holds_FnApply : Rows.FnApplyCardSaid :=
  Claim7.holds_tied_plain_at .later [] [.data] true (true, "3d2c88d957d06082902c58164e94ed0f70d9b698276363a5f755186a5af957fe") false
    said_FnApply (fun _ h => by cases h) (by kernel_rfl) (fun _ h => by cases h) fnApply_row_tie rfl ⟨rfl, rfl⟩ (by kernel_rfl) rfl
    (fun f fn hf hfn => by
      obtain rfl : f = 10 := Option.some.inj ((show Tryd.prog.funcNamed "loop.example/polarisedlight/laws.FnApply" = some 10 by kernel_rfl).symm.trans hf) |>.symm
      obtain rfl : fn = Tryd.f10 := (Option.some.inj (Tryd.func10.symm.trans hfn)).symm
      exact ⟨by kernel_rfl, fun j t ht => by
        rw [Tryd.params10] at ht
        have hm : t ∈ [22] := by simpa using Array.mem_of_getElem? ht
        have hall : ([22].all fun u => !Tryd.prog.wantsStandIn u) = true := by kernel_rfl
        exact (show Tryd.prog.wantsStandIn t = false by simpa using List.all_eq_true.1 hall t hm)⟩)
    (by kernel_rfl)
end Go.Proofs.YtcpdapfcbnhgaaaDoor
