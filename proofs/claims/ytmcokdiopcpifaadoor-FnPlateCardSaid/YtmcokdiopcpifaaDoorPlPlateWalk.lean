/- The walk through the law that plates add up their phases. -/
import Derived.Test.YtmcokdiopcpifaaDoorPlG19
import Derived.Test.YtmcokdiopcpifaaDoorPlG23
import Derived.Test.YtmcokdiopcpifaaDoorPlMP2
import Derived.Test.YtmcokdiopcpifaaDoorPlML
import Derived.Test.YtmcokdiopcpifaaDoorPlG4
import Derived.Test.YtmcokdiopcpifaaDoorPlDM4
import Derived.Test.YtmcokdiopcpifaaDoorPlG17
set_option maxRecDepth 100000
namespace Go.Proofs.YtmcokdiopcpifaaDoor
open Go.ChangeShapes Go.WideShapes Go.ChangeAt Go.RowKit Pol
set_option maxRecDepth 100000 in
set_option maxHeartbeats 400000000 in
theorem walk_FnPlate (a0 : Option Addr) (len cap : Nat) (w : World) (hcap : len ≤ cap) (HC : Code w.heap.size w a0 len) (hg_one : Gat w 0 (ixF f1) 1) (hg_zero : Gat w 1 (ixF f0) 1) (hg_turns : Gat w 3 mTurns.get 4) (hg_same : Gat w 4 mSame.get 4) :
    Calls Tryd.prog 12 #[.slice a0 len cap] w fun e w' => e = .returned (.bool true) ∧ Below w.heap.size w w' := by
  by_cases hbig : 1048576 < len
  · have h1 : (1048576 : Int) < (len : Int) := by omega
    go_enter Tryd.func12, Tryd.ntmps12
    go_wp2
    go_ret
    exact ⟨rfl, Below.refl _ _⟩
  have h1 : ¬ (1048576 : Int) < (len : Int) := by omega
  have HB : Hid (Below w.heap.size w w) := Below.refl _ _
  have HG_one := Lib.hid hg_one; clear hg_one
  have HG_zero := Lib.hid hg_zero; clear hg_zero
  have HG_turns := Lib.hid hg_turns; clear hg_turns
  have HG_same := Lib.hid hg_same; clear hg_same
  go_enter Tryd.func12, Tryd.ntmps12
  go_wp2_with fail
  refine (DrawMatPlate_any a0 len cap _ hcap HC).mono ?_
  rintro e w1 ⟨p, q, k, rfl, hb⟩
  have HB := Lib.hid (show Below w.heap.size w w1 from HB.out.trans ((show Below _ _ _ from (Below.refl _ _)).trans (hb.mono (by first | omega | (simp <;> omega)))))
  have hz1 := hb.size
  (try simp at hz1)
  clear hb
  cases hd : dirB p q
  · skip
    have HG : Hid (gPla p q k = (m4z, false)) := gPla_1 hd
    go_wp2_with fail
    refine (ipla_any p q k _ (HG_one.out.below HB.out) (HG_zero.out.below HB.out) (HG_turns.out.below HB.out)).mono ?_
    rintro e w2 ho
    rw [HG.out] at ho
    obtain ⟨rfl, hb⟩ : e = .returned (.tuple #[.agg #[.int .i64 m4z.a.re, .int .i64 m4z.a.im, .int .i64 m4z.a.den, .int .i64 m4z.b.re, .int .i64 m4z.b.im, .int .i64 m4z.b.den, .int .i64 m4z.c.re, .int .i64 m4z.c.im, .int .i64 m4z.c.den, .int .i64 m4z.d.re, .int .i64 m4z.d.im, .int .i64 m4z.d.den], .bool false]) ∧ Below _ _ _ := ho.fn
    clear ho
    have HB := Lib.hid (show Below w.heap.size w w2 from HB.out.trans ((show Below _ _ _ from (Below.refl _ _)).trans (hb.mono (by first | omega | (simp <;> omega)))))
    have hz2 := hb.size
    (try simp at hz2)
    clear hb
    go_wp2_with fail
    refine (spla_any p q k _).mono ?_
    rintro e w3 ho
    rw [HG.out] at ho
    obtain ⟨rfl, hb⟩ : e = .returned (.tuple #[.agg #[.int .i64 m4z.a.re, .int .i64 m4z.a.im, .int .i64 m4z.a.den, .int .i64 m4z.b.re, .int .i64 m4z.b.im, .int .i64 m4z.b.den, .int .i64 m4z.c.re, .int .i64 m4z.c.im, .int .i64 m4z.c.den, .int .i64 m4z.d.re, .int .i64 m4z.d.im, .int .i64 m4z.d.den], .bool false]) ∧ Below _ _ _ := ho.fn
    clear ho
    have HB := Lib.hid (show Below w.heap.size w w3 from HB.out.trans ((show Below _ _ _ from ((Below.refl _ _).alloc (by first | omega | (simp; done) | (simp <;> omega)) _)).trans (hb.mono (by first | omega | (simp <;> omega)))))
    have Ho : Hid (w3.rangeAt (w2.heap.size) 0 [.int .i64 m4z.a.re, .int .i64 m4z.a.im, .int .i64 m4z.a.den, .int .i64 m4z.b.re, .int .i64 m4z.b.im, .int .i64 m4z.b.den, .int .i64 m4z.c.re, .int .i64 m4z.c.im, .int .i64 m4z.c.den, .int .i64 m4z.d.re, .int .i64 m4z.d.im, .int .i64 m4z.d.den]) := rangeAt_below (rangeAt_new _ _ _) hb (by first | omega | (simp; done) | (simp <;> omega))
    have hz3 := hb.size
    (try simp at hz3)
    clear hb
    have nA0 : w2.heap.size < w3.heap.size := by omega
    have nB0 : ¬ w2.heap.size = w3.heap.size := by omega
    have nC0 : ¬ w3.heap.size = w2.heap.size := by omega
    have hEq1 : ∀ w, (Op.equalIn 10000 41 (.agg #[.int .i64 m4z.a.re, .int .i64 m4z.a.im, .int .i64 m4z.a.den, .int .i64 m4z.b.re, .int .i64 m4z.b.im, .int .i64 m4z.b.den, .int .i64 m4z.c.re, .int .i64 m4z.c.im, .int .i64 m4z.c.den, .int .i64 m4z.d.re, .int .i64 m4z.d.im, .int .i64 m4z.d.den]) (.agg #[.int .i64 m4z.a.re, .int .i64 m4z.a.im, .int .i64 m4z.a.den, .int .i64 m4z.b.re, .int .i64 m4z.b.im, .int .i64 m4z.b.den, .int .i64 m4z.c.re, .int .i64 m4z.c.im, .int .i64 m4z.c.den, .int .i64 m4z.d.re, .int .i64 m4z.d.im, .int .i64 m4z.d.den])).run Tryd.prog w = .ok true w := eqMat_run m4z
    have zo_0 : w3.cell? ⟨w2.heap.size, 0, none⟩ = some (.int .i64 m4z.a.re) := by have := Ho.out 0 _ rfl; rwa [Nat.zero_add] at this
    have zo_1 : w3.cell? ⟨w2.heap.size, 1, none⟩ = some (.int .i64 m4z.a.im) := by have := Ho.out 1 _ rfl; rwa [Nat.zero_add] at this
    have zo_2 : w3.cell? ⟨w2.heap.size, 2, none⟩ = some (.int .i64 m4z.a.den) := by have := Ho.out 2 _ rfl; rwa [Nat.zero_add] at this
    have zo_3 : w3.cell? ⟨w2.heap.size, 3, none⟩ = some (.int .i64 m4z.b.re) := by have := Ho.out 3 _ rfl; rwa [Nat.zero_add] at this
    have zo_4 : w3.cell? ⟨w2.heap.size, 4, none⟩ = some (.int .i64 m4z.b.im) := by have := Ho.out 4 _ rfl; rwa [Nat.zero_add] at this
    have zo_5 : w3.cell? ⟨w2.heap.size, 5, none⟩ = some (.int .i64 m4z.b.den) := by have := Ho.out 5 _ rfl; rwa [Nat.zero_add] at this
    have zo_6 : w3.cell? ⟨w2.heap.size, 6, none⟩ = some (.int .i64 m4z.c.re) := by have := Ho.out 6 _ rfl; rwa [Nat.zero_add] at this
    have zo_7 : w3.cell? ⟨w2.heap.size, 7, none⟩ = some (.int .i64 m4z.c.im) := by have := Ho.out 7 _ rfl; rwa [Nat.zero_add] at this
    have zo_8 : w3.cell? ⟨w2.heap.size, 8, none⟩ = some (.int .i64 m4z.c.den) := by have := Ho.out 8 _ rfl; rwa [Nat.zero_add] at this
    have zo_9 : w3.cell? ⟨w2.heap.size, 9, none⟩ = some (.int .i64 m4z.d.re) := by have := Ho.out 9 _ rfl; rwa [Nat.zero_add] at this
    have zo_10 : w3.cell? ⟨w2.heap.size, 10, none⟩ = some (.int .i64 m4z.d.im) := by have := Ho.out 10 _ rfl; rwa [Nat.zero_add] at this
    have zo_11 : w3.cell? ⟨w2.heap.size, 11, none⟩ = some (.int .i64 m4z.d.den) := by have := Ho.out 11 _ rfl; rwa [Nat.zero_add] at this
    go_wp2_with fail
    go_ret
    exact ⟨rfl, (by (repeat' first | (with_reducible exact HB.out) | with_reducible refine setCells_below _ _ _ ?_ (by first | omega | (simp <;> omega)) | with_reducible refine Below.setCell ?_ (by show _ ≤ _; first | omega | (simp <;> omega) | simp) _ | with_reducible refine Below.alloc ?_ (by first | omega | (simp <;> omega)) _ | with_reducible apply Below.drew | with_reducible refine below_drewN ?_ _))⟩
  · skip
    cases hk : wi k 0 3
    · skip
      have HG : Hid (gPla p q k = (m4z, false)) := gPla_2 hk
      go_wp2_with fail
      refine (ipla_any p q k _ (HG_one.out.below HB.out) (HG_zero.out.below HB.out) (HG_turns.out.below HB.out)).mono ?_
      rintro e w2 ho
      rw [HG.out] at ho
      obtain ⟨rfl, hb⟩ : e = .returned (.tuple #[.agg #[.int .i64 m4z.a.re, .int .i64 m4z.a.im, .int .i64 m4z.a.den, .int .i64 m4z.b.re, .int .i64 m4z.b.im, .int .i64 m4z.b.den, .int .i64 m4z.c.re, .int .i64 m4z.c.im, .int .i64 m4z.c.den, .int .i64 m4z.d.re, .int .i64 m4z.d.im, .int .i64 m4z.d.den], .bool false]) ∧ Below _ _ _ := ho.fn
      clear ho
      have HB := Lib.hid (show Below w.heap.size w w2 from HB.out.trans ((show Below _ _ _ from (Below.refl _ _)).trans (hb.mono (by first | omega | (simp <;> omega)))))
      have hz2 := hb.size
      (try simp at hz2)
      clear hb
      go_wp2_with fail
      refine (spla_any p q k _).mono ?_
      rintro e w3 ho
      rw [HG.out] at ho
      obtain ⟨rfl, hb⟩ : e = .returned (.tuple #[.agg #[.int .i64 m4z.a.re, .int .i64 m4z.a.im, .int .i64 m4z.a.den, .int .i64 m4z.b.re, .int .i64 m4z.b.im, .int .i64 m4z.b.den, .int .i64 m4z.c.re, .int .i64 m4z.c.im, .int .i64 m4z.c.den, .int .i64 m4z.d.re, .int .i64 m4z.d.im, .int .i64 m4z.d.den], .bool false]) ∧ Below _ _ _ := ho.fn
      clear ho
      have HB := Lib.hid (show Below w.heap.size w w3 from HB.out.trans ((show Below _ _ _ from ((Below.refl _ _).alloc (by first | omega | (simp; done) | (simp <;> omega)) _)).trans (hb.mono (by first | omega | (simp <;> omega)))))
      have Ho : Hid (w3.rangeAt (w2.heap.size) 0 [.int .i64 m4z.a.re, .int .i64 m4z.a.im, .int .i64 m4z.a.den, .int .i64 m4z.b.re, .int .i64 m4z.b.im, .int .i64 m4z.b.den, .int .i64 m4z.c.re, .int .i64 m4z.c.im, .int .i64 m4z.c.den, .int .i64 m4z.d.re, .int .i64 m4z.d.im, .int .i64 m4z.d.den]) := rangeAt_below (rangeAt_new _ _ _) hb (by first | omega | (simp; done) | (simp <;> omega))
      have hz3 := hb.size
      (try simp at hz3)
      clear hb
      have nA0 : w2.heap.size < w3.heap.size := by omega
      have nB0 : ¬ w2.heap.size = w3.heap.size := by omega
      have nC0 : ¬ w3.heap.size = w2.heap.size := by omega
      have hEq1 : ∀ w, (Op.equalIn 10000 41 (.agg #[.int .i64 m4z.a.re, .int .i64 m4z.a.im, .int .i64 m4z.a.den, .int .i64 m4z.b.re, .int .i64 m4z.b.im, .int .i64 m4z.b.den, .int .i64 m4z.c.re, .int .i64 m4z.c.im, .int .i64 m4z.c.den, .int .i64 m4z.d.re, .int .i64 m4z.d.im, .int .i64 m4z.d.den]) (.agg #[.int .i64 m4z.a.re, .int .i64 m4z.a.im, .int .i64 m4z.a.den, .int .i64 m4z.b.re, .int .i64 m4z.b.im, .int .i64 m4z.b.den, .int .i64 m4z.c.re, .int .i64 m4z.c.im, .int .i64 m4z.c.den, .int .i64 m4z.d.re, .int .i64 m4z.d.im, .int .i64 m4z.d.den])).run Tryd.prog w = .ok true w := eqMat_run m4z
      have zo_0 : w3.cell? ⟨w2.heap.size, 0, none⟩ = some (.int .i64 m4z.a.re) := by have := Ho.out 0 _ rfl; rwa [Nat.zero_add] at this
      have zo_1 : w3.cell? ⟨w2.heap.size, 1, none⟩ = some (.int .i64 m4z.a.im) := by have := Ho.out 1 _ rfl; rwa [Nat.zero_add] at this
      have zo_2 : w3.cell? ⟨w2.heap.size, 2, none⟩ = some (.int .i64 m4z.a.den) := by have := Ho.out 2 _ rfl; rwa [Nat.zero_add] at this
      have zo_3 : w3.cell? ⟨w2.heap.size, 3, none⟩ = some (.int .i64 m4z.b.re) := by have := Ho.out 3 _ rfl; rwa [Nat.zero_add] at this
      have zo_4 : w3.cell? ⟨w2.heap.size, 4, none⟩ = some (.int .i64 m4z.b.im) := by have := Ho.out 4 _ rfl; rwa [Nat.zero_add] at this
      have zo_5 : w3.cell? ⟨w2.heap.size, 5, none⟩ = some (.int .i64 m4z.b.den) := by have := Ho.out 5 _ rfl; rwa [Nat.zero_add] at this
      have zo_6 : w3.cell? ⟨w2.heap.size, 6, none⟩ = some (.int .i64 m4z.c.re) := by have := Ho.out 6 _ rfl; rwa [Nat.zero_add] at this
      have zo_7 : w3.cell? ⟨w2.heap.size, 7, none⟩ = some (.int .i64 m4z.c.im) := by have := Ho.out 7 _ rfl; rwa [Nat.zero_add] at this
      have zo_8 : w3.cell? ⟨w2.heap.size, 8, none⟩ = some (.int .i64 m4z.c.den) := by have := Ho.out 8 _ rfl; rwa [Nat.zero_add] at this
      have zo_9 : w3.cell? ⟨w2.heap.size, 9, none⟩ = some (.int .i64 m4z.d.re) := by have := Ho.out 9 _ rfl; rwa [Nat.zero_add] at this
      have zo_10 : w3.cell? ⟨w2.heap.size, 10, none⟩ = some (.int .i64 m4z.d.im) := by have := Ho.out 10 _ rfl; rwa [Nat.zero_add] at this
      have zo_11 : w3.cell? ⟨w2.heap.size, 11, none⟩ = some (.int .i64 m4z.d.den) := by have := Ho.out 11 _ rfl; rwa [Nat.zero_add] at this
      go_wp2_with fail
      go_ret
      exact ⟨rfl, (by (repeat' first | (with_reducible exact HB.out) | with_reducible refine setCells_below _ _ _ ?_ (by first | omega | (simp <;> omega)) | with_reducible refine Below.setCell ?_ (by show _ ≤ _; first | omega | (simp <;> omega) | simp) _ | with_reducible refine Below.alloc ?_ (by first | omega | (simp <;> omega)) _ | with_reducible apply Below.drew | with_reducible refine below_drewN ?_ _))⟩
    · skip
      obtain ⟨n, rfl, hn⟩ : ∃ n : Nat, k = (n : Int) ∧ n < 4 := by
        rcases wi4 hk with rfl | rfl | rfl | rfl
        · exact ⟨0, rfl, by omega⟩
        · exact ⟨1, rfl, by omega⟩
        · exact ⟨2, rfl, by omega⟩
        · exact ⟨3, rfl, by omega⟩
      clear hk
      have i0 : (0 : Int) ≤ (n : Int) := by omega
      have i1 : (n : Int) < 4 := by omega
      obtain ⟨F, G, F1, G1, hp, hk0, hk1, hp1, hF, hG, hPW⟩ := pow_at hn
      obtain ⟨m, u, y, l1, l2, l3, hA, hw1, hw2, hw3⟩ := plate_all hd hk0 hk1 hp hp1 hF hG
      obtain ⟨c, hc⟩ : ∃ c, c = mC m := ⟨_, rfl⟩
      rw [← hc] at hA hw1
      obtain ⟨A, s, hs⟩ : ∃ A s, mTm m c = (A, s) := ⟨_, _, rfl⟩
      obtain ⟨d, t, ht⟩ : ∃ d t, gDet m = (d, t) := ⟨_, _, rfl⟩
      obtain ⟨X, v, hv⟩ : ∃ X v, mTm m u = (X, v) := ⟨_, _, rfl⟩
      have HW1 := Lib.hid (fun (h : s = true) => hw1 A (by rw [hs, h]))
      have HW2 := Lib.hid (fun (h : t = true) => hw2 d (by rw [ht, h]))
      have HW3 := Lib.hid (fun (h : v = true) => hw3 X (by rw [hv, h]))
      have HPW := Lib.hid hPW
      have HA := Lib.hid hA
      have HG := Lib.hid l1
      have HU := Lib.hid l2
      have HY := Lib.hid l3
      have HS := Lib.hid hs
      have HT := Lib.hid ht
      have HV := Lib.hid hv
      clear l1 l2 l3 hs ht hv hw1 hw2 hw3 hA hc hd hp hk0 hk1 hp1 hF hG hPW
      go_wp2_with fail
      refine (ipla_any p q n _ (HG_one.out.below HB.out) (HG_zero.out.below HB.out) (HG_turns.out.below HB.out)).mono ?_
      rintro e w2 ho
      rw [HG.out] at ho
      obtain ⟨rfl, hb⟩ : e = .returned (.tuple #[.agg #[.int .i64 m.a.re, .int .i64 m.a.im, .int .i64 m.a.den, .int .i64 m.b.re, .int .i64 m.b.im, .int .i64 m.b.den, .int .i64 m.c.re, .int .i64 m.c.im, .int .i64 m.c.den, .int .i64 m.d.re, .int .i64 m.d.im, .int .i64 m.d.den], .bool true]) ∧ Below _ _ _ := ho.fn
      clear ho
      have HB := Lib.hid (show Below w.heap.size w w2 from HB.out.trans ((show Below _ _ _ from (Below.refl _ _)).trans (hb.mono (by first | omega | (simp <;> omega)))))
      have hz2 := hb.size
      (try simp at hz2)
      clear hb
      go_wp2_with fail
      refine (spla_any p q n _).mono ?_
      rintro e w3 ho
      rw [HG.out] at ho
      obtain ⟨rfl, hb⟩ : e = .returned (.tuple #[.agg #[.int .i64 m.a.re, .int .i64 m.a.im, .int .i64 m.a.den, .int .i64 m.b.re, .int .i64 m.b.im, .int .i64 m.b.den, .int .i64 m.c.re, .int .i64 m.c.im, .int .i64 m.c.den, .int .i64 m.d.re, .int .i64 m.d.im, .int .i64 m.d.den], .bool true]) ∧ Below _ _ _ := ho.fn
      clear ho
      have HB := Lib.hid (show Below w.heap.size w w3 from HB.out.trans ((show Below _ _ _ from ((Below.refl _ _).alloc (by first | omega | (simp; done) | (simp <;> omega)) _)).trans (hb.mono (by first | omega | (simp <;> omega)))))
      have Ho : Hid (w3.rangeAt (w2.heap.size) 0 [.int .i64 m.a.re, .int .i64 m.a.im, .int .i64 m.a.den, .int .i64 m.b.re, .int .i64 m.b.im, .int .i64 m.b.den, .int .i64 m.c.re, .int .i64 m.c.im, .int .i64 m.c.den, .int .i64 m.d.re, .int .i64 m.d.im, .int .i64 m.d.den]) := rangeAt_below (rangeAt_new _ _ _) hb (by first | omega | (simp; done) | (simp <;> omega))
      have hz3 := hb.size
      (try simp at hz3)
      clear hb
      have nA0 : w2.heap.size < w3.heap.size := by omega
      have nB0 : ¬ w2.heap.size = w3.heap.size := by omega
      have nC0 : ¬ w3.heap.size = w2.heap.size := by omega
      have hEq1 : ∀ w, (Op.equalIn 10000 41 (.agg #[.int .i64 m.a.re, .int .i64 m.a.im, .int .i64 m.a.den, .int .i64 m.b.re, .int .i64 m.b.im, .int .i64 m.b.den, .int .i64 m.c.re, .int .i64 m.c.im, .int .i64 m.c.den, .int .i64 m.d.re, .int .i64 m.d.im, .int .i64 m.d.den]) (.agg #[.int .i64 m.a.re, .int .i64 m.a.im, .int .i64 m.a.den, .int .i64 m.b.re, .int .i64 m.b.im, .int .i64 m.b.den, .int .i64 m.c.re, .int .i64 m.c.im, .int .i64 m.c.den, .int .i64 m.d.re, .int .i64 m.d.im, .int .i64 m.d.den])).run Tryd.prog w = .ok true w := eqMat_run m
      have zo_0 : w3.cell? ⟨w2.heap.size, 0, none⟩ = some (.int .i64 m.a.re) := by have := Ho.out 0 _ rfl; rwa [Nat.zero_add] at this
      have zo_1 : w3.cell? ⟨w2.heap.size, 1, none⟩ = some (.int .i64 m.a.im) := by have := Ho.out 1 _ rfl; rwa [Nat.zero_add] at this
      have zo_2 : w3.cell? ⟨w2.heap.size, 2, none⟩ = some (.int .i64 m.a.den) := by have := Ho.out 2 _ rfl; rwa [Nat.zero_add] at this
      have zo_3 : w3.cell? ⟨w2.heap.size, 3, none⟩ = some (.int .i64 m.b.re) := by have := Ho.out 3 _ rfl; rwa [Nat.zero_add] at this
      have zo_4 : w3.cell? ⟨w2.heap.size, 4, none⟩ = some (.int .i64 m.b.im) := by have := Ho.out 4 _ rfl; rwa [Nat.zero_add] at this
      have zo_5 : w3.cell? ⟨w2.heap.size, 5, none⟩ = some (.int .i64 m.b.den) := by have := Ho.out 5 _ rfl; rwa [Nat.zero_add] at this
      have zo_6 : w3.cell? ⟨w2.heap.size, 6, none⟩ = some (.int .i64 m.c.re) := by have := Ho.out 6 _ rfl; rwa [Nat.zero_add] at this
      have zo_7 : w3.cell? ⟨w2.heap.size, 7, none⟩ = some (.int .i64 m.c.im) := by have := Ho.out 7 _ rfl; rwa [Nat.zero_add] at this
      have zo_8 : w3.cell? ⟨w2.heap.size, 8, none⟩ = some (.int .i64 m.c.den) := by have := Ho.out 8 _ rfl; rwa [Nat.zero_add] at this
      have zo_9 : w3.cell? ⟨w2.heap.size, 9, none⟩ = some (.int .i64 m.d.re) := by have := Ho.out 9 _ rfl; rwa [Nat.zero_add] at this
      have zo_10 : w3.cell? ⟨w2.heap.size, 10, none⟩ = some (.int .i64 m.d.im) := by have := Ho.out 10 _ rfl; rwa [Nat.zero_add] at this
      have zo_11 : w3.cell? ⟨w2.heap.size, 11, none⟩ = some (.int .i64 m.d.den) := by have := Ho.out 11 _ rfl; rwa [Nat.zero_add] at this
      go_wp2_with (first | ((with_reducible refine wpList_load_mid ?kl11 41 ?kl1x ?kl12 (w2.heap.size) 0 ?kl13 [.int .i64 m.a.re, .int .i64 m.a.im, .int .i64 m.a.den, .int .i64 m.b.re, .int .i64 m.b.im, .int .i64 m.b.den, .int .i64 m.c.re, .int .i64 m.c.im, .int .i64 m.c.den, .int .i64 m.d.re, .int .i64 m.d.im, .int .i64 m.d.den] ?kl1d ?kl14 ?kl15 ?kl16 ?kl17 ?kl18); (case kl12 => rfl); (case kl11 => rfl); (case kl13 => rfl); (case kl14 => (exact (World.rangeAt_alloc Ho.out _))); (case kl15 => exact Tryd.underlying41); (case kl16 => rfl); (case kl17 => kernel_rfl)))
      refine (imatadj_any m _).mono ?_
      rintro e w4 ho
      rw [HA.out] at ho
      obtain ⟨rfl, hb⟩ : e = .returned (.tuple #[.agg #[.int .i64 c.a.re, .int .i64 c.a.im, .int .i64 c.a.den, .int .i64 c.b.re, .int .i64 c.b.im, .int .i64 c.b.den, .int .i64 c.c.re, .int .i64 c.c.im, .int .i64 c.c.den, .int .i64 c.d.re, .int .i64 c.d.im, .int .i64 c.d.den], .bool true]) ∧ Below _ _ _ := ho.fn
      clear ho
      have HB := Lib.hid (show Below w.heap.size w w4 from HB.out.trans ((show Below _ _ _ from ((Below.refl _ _).alloc (by first | omega | (simp; done) | (simp <;> omega)) _)).trans (hb.mono (by first | omega | (simp <;> omega)))))
      have Ho : Hid (w4.rangeAt (w2.heap.size) 0 [.int .i64 m.a.re, .int .i64 m.a.im, .int .i64 m.a.den, .int .i64 m.b.re, .int .i64 m.b.im, .int .i64 m.b.den, .int .i64 m.c.re, .int .i64 m.c.im, .int .i64 m.c.den, .int .i64 m.d.re, .int .i64 m.d.im, .int .i64 m.d.den]) := rangeAt_below (World.rangeAt_alloc Ho.out _) hb (by first | omega | (simp; done) | (simp <;> omega))
      have Hqq : Hid (w4.rangeAt (w3.heap.size) 0 [.int .i64 m.a.re, .int .i64 m.a.im, .int .i64 m.a.den, .int .i64 m.b.re, .int .i64 m.b.im, .int .i64 m.b.den, .int .i64 m.c.re, .int .i64 m.c.im, .int .i64 m.c.den, .int .i64 m.d.re, .int .i64 m.d.im, .int .i64 m.d.den]) := rangeAt_below (rangeAt_new _ _ _) hb (by first | omega | (simp; done) | (simp <;> omega))
      have hz4 := hb.size
      (try simp at hz4)
      clear hb
      have nA0 : w2.heap.size < w4.heap.size := by omega
      have nB0 : ¬ w2.heap.size = w4.heap.size := by omega
      have nC0 : ¬ w4.heap.size = w2.heap.size := by omega
      have nA1 : w3.heap.size < w4.heap.size := by omega
      have nB1 : ¬ w3.heap.size = w4.heap.size := by omega
      have nC1 : ¬ w4.heap.size = w3.heap.size := by omega
      go_wp2_with (first | ((with_reducible refine wpList_load_mid ?kl21 41 ?kl2x ?kl22 (w2.heap.size) 0 ?kl23 [.int .i64 m.a.re, .int .i64 m.a.im, .int .i64 m.a.den, .int .i64 m.b.re, .int .i64 m.b.im, .int .i64 m.b.den, .int .i64 m.c.re, .int .i64 m.c.im, .int .i64 m.c.den, .int .i64 m.d.re, .int .i64 m.d.im, .int .i64 m.d.den] ?kl2d ?kl24 ?kl25 ?kl26 ?kl27 ?kl28); (case kl22 => rfl); (case kl21 => rfl); (case kl23 => rfl); (case kl24 => (exact (World.rangeAt_alloc Ho.out _))); (case kl25 => exact Tryd.underlying41); (case kl26 => rfl); (case kl27 => kernel_rfl)) | ((with_reducible refine wpList_load_mid ?kl31 41 ?kl3x ?kl32 (w4.heap.size) 0 ?kl33 [.int .i64 c.a.re, .int .i64 c.a.im, .int .i64 c.a.den, .int .i64 c.b.re, .int .i64 c.b.im, .int .i64 c.b.den, .int .i64 c.c.re, .int .i64 c.c.im, .int .i64 c.c.den, .int .i64 c.d.re, .int .i64 c.d.im, .int .i64 c.d.den] ?kl3d ?kl34 ?kl35 ?kl36 ?kl37 ?kl38); (case kl32 => rfl); (case kl31 => rfl); (case kl33 => rfl); (case kl34 => (exact (rangeAt_new _ _ _))); (case kl35 => exact Tryd.underlying41); (case kl36 => rfl); (case kl37 => kernel_rfl)))
      refine (imtm_m m c _).mono ?_
      rintro e w5 ho
      rw [HS.out] at ho
      obtain ⟨rfl, hb⟩ : e = .returned (.tuple #[.agg #[.int .i64 A.a.re, .int .i64 A.a.im, .int .i64 A.a.den, .int .i64 A.b.re, .int .i64 A.b.im, .int .i64 A.b.den, .int .i64 A.c.re, .int .i64 A.c.im, .int .i64 A.c.den, .int .i64 A.d.re, .int .i64 A.d.im, .int .i64 A.d.den], .bool s]) ∧ Below _ _ _ := ho.fn
      clear ho
      have HB := Lib.hid (show Below w.heap.size w w5 from HB.out.trans ((show Below _ _ _ from ((Below.refl _ _).alloc (by first | omega | (simp; done) | (simp <;> omega)) _)).trans (hb.mono (by first | omega | (simp <;> omega)))))
      have Ho : Hid (w5.rangeAt (w2.heap.size) 0 [.int .i64 m.a.re, .int .i64 m.a.im, .int .i64 m.a.den, .int .i64 m.b.re, .int .i64 m.b.im, .int .i64 m.b.den, .int .i64 m.c.re, .int .i64 m.c.im, .int .i64 m.c.den, .int .i64 m.d.re, .int .i64 m.d.im, .int .i64 m.d.den]) := rangeAt_below (World.rangeAt_alloc Ho.out _) hb (by first | omega | (simp; done) | (simp <;> omega))
      have Hqq : Hid (w5.rangeAt (w3.heap.size) 0 [.int .i64 m.a.re, .int .i64 m.a.im, .int .i64 m.a.den, .int .i64 m.b.re, .int .i64 m.b.im, .int .i64 m.b.den, .int .i64 m.c.re, .int .i64 m.c.im, .int .i64 m.c.den, .int .i64 m.d.re, .int .i64 m.d.im, .int .i64 m.d.den]) := rangeAt_below (World.rangeAt_alloc Hqq.out _) hb (by first | omega | (simp; done) | (simp <;> omega))
      have Had : Hid (w5.rangeAt (w4.heap.size) 0 [.int .i64 c.a.re, .int .i64 c.a.im, .int .i64 c.a.den, .int .i64 c.b.re, .int .i64 c.b.im, .int .i64 c.b.den, .int .i64 c.c.re, .int .i64 c.c.im, .int .i64 c.c.den, .int .i64 c.d.re, .int .i64 c.d.im, .int .i64 c.d.den]) := rangeAt_below (rangeAt_new _ _ _) hb (by first | omega | (simp; done) | (simp <;> omega))
      have hz5 := hb.size
      (try simp at hz5)
      clear hb
      have nA0 : w2.heap.size < w5.heap.size := by omega
      have nB0 : ¬ w2.heap.size = w5.heap.size := by omega
      have nC0 : ¬ w5.heap.size = w2.heap.size := by omega
      have nA1 : w3.heap.size < w5.heap.size := by omega
      have nB1 : ¬ w3.heap.size = w5.heap.size := by omega
      have nC1 : ¬ w5.heap.size = w3.heap.size := by omega
      have nA2 : w4.heap.size < w5.heap.size := by omega
      have nB2 : ¬ w4.heap.size = w5.heap.size := by omega
      have nC2 : ¬ w5.heap.size = w4.heap.size := by omega
      go_wp2_with (first | ((with_reducible refine wpList_load_mid ?kl41 41 ?kl4x ?kl42 (w2.heap.size) 0 ?kl43 [.int .i64 m.a.re, .int .i64 m.a.im, .int .i64 m.a.den, .int .i64 m.b.re, .int .i64 m.b.im, .int .i64 m.b.den, .int .i64 m.c.re, .int .i64 m.c.im, .int .i64 m.c.den, .int .i64 m.d.re, .int .i64 m.d.im, .int .i64 m.d.den] ?kl4d ?kl44 ?kl45 ?kl46 ?kl47 ?kl48); (case kl42 => rfl); (case kl41 => rfl); (case kl43 => rfl); (case kl44 => (exact (World.rangeAt_alloc Ho.out _))); (case kl45 => exact Tryd.underlying41); (case kl46 => rfl); (case kl47 => kernel_rfl)))
      refine (imatdet_any m _).mono ?_
      rintro e w6 ho
      rw [HT.out] at ho
      obtain ⟨rfl, hb⟩ : e = .returned (.tuple #[.agg #[.int .i64 d.re, .int .i64 d.im, .int .i64 d.den], .bool t]) ∧ Below _ _ _ := ho.fn
      clear ho
      have HB := Lib.hid (show Below w.heap.size w w6 from HB.out.trans ((show Below _ _ _ from ((Below.refl _ _).alloc (by first | omega | (simp; done) | (simp <;> omega)) _)).trans (hb.mono (by first | omega | (simp <;> omega)))))
      have Ho : Hid (w6.rangeAt (w2.heap.size) 0 [.int .i64 m.a.re, .int .i64 m.a.im, .int .i64 m.a.den, .int .i64 m.b.re, .int .i64 m.b.im, .int .i64 m.b.den, .int .i64 m.c.re, .int .i64 m.c.im, .int .i64 m.c.den, .int .i64 m.d.re, .int .i64 m.d.im, .int .i64 m.d.den]) := rangeAt_below (World.rangeAt_alloc Ho.out _) hb (by first | omega | (simp; done) | (simp <;> omega))
      have Hqq : Hid (w6.rangeAt (w3.heap.size) 0 [.int .i64 m.a.re, .int .i64 m.a.im, .int .i64 m.a.den, .int .i64 m.b.re, .int .i64 m.b.im, .int .i64 m.b.den, .int .i64 m.c.re, .int .i64 m.c.im, .int .i64 m.c.den, .int .i64 m.d.re, .int .i64 m.d.im, .int .i64 m.d.den]) := rangeAt_below (World.rangeAt_alloc Hqq.out _) hb (by first | omega | (simp; done) | (simp <;> omega))
      have Had : Hid (w6.rangeAt (w4.heap.size) 0 [.int .i64 c.a.re, .int .i64 c.a.im, .int .i64 c.a.den, .int .i64 c.b.re, .int .i64 c.b.im, .int .i64 c.b.den, .int .i64 c.c.re, .int .i64 c.c.im, .int .i64 c.c.den, .int .i64 c.d.re, .int .i64 c.d.im, .int .i64 c.d.den]) := rangeAt_below (World.rangeAt_alloc Had.out _) hb (by first | omega | (simp; done) | (simp <;> omega))
      have Haa : Hid (w6.rangeAt (w5.heap.size) 0 [.int .i64 A.a.re, .int .i64 A.a.im, .int .i64 A.a.den, .int .i64 A.b.re, .int .i64 A.b.im, .int .i64 A.b.den, .int .i64 A.c.re, .int .i64 A.c.im, .int .i64 A.c.den, .int .i64 A.d.re, .int .i64 A.d.im, .int .i64 A.d.den]) := rangeAt_below (rangeAt_new _ _ _) hb (by first | omega | (simp; done) | (simp <;> omega))
      have hz6 := hb.size
      (try simp at hz6)
      clear hb
      have nA0 : w2.heap.size < w6.heap.size := by omega
      have nB0 : ¬ w2.heap.size = w6.heap.size := by omega
      have nC0 : ¬ w6.heap.size = w2.heap.size := by omega
      have nA1 : w3.heap.size < w6.heap.size := by omega
      have nB1 : ¬ w3.heap.size = w6.heap.size := by omega
      have nC1 : ¬ w6.heap.size = w3.heap.size := by omega
      have nA2 : w4.heap.size < w6.heap.size := by omega
      have nB2 : ¬ w4.heap.size = w6.heap.size := by omega
      have nC2 : ¬ w6.heap.size = w4.heap.size := by omega
      have nA3 : w5.heap.size < w6.heap.size := by omega
      have nB3 : ¬ w5.heap.size = w6.heap.size := by omega
      have nC3 : ¬ w6.heap.size = w5.heap.size := by omega
      go_wp2_with fail
      refine (ipla_any p q 1 _ (HG_one.out.below (Below.alloc (Below.alloc HB.out (by first | omega | (simp; done) | (simp <;> omega)) _) (by first | omega | (simp; done) | (simp <;> omega)) _)) (HG_zero.out.below (Below.alloc (Below.alloc HB.out (by first | omega | (simp; done) | (simp <;> omega)) _) (by first | omega | (simp; done) | (simp <;> omega)) _)) (HG_turns.out.below (Below.alloc (Below.alloc HB.out (by first | omega | (simp; done) | (simp <;> omega)) _) (by first | omega | (simp; done) | (simp <;> omega)) _))).mono ?_
      rintro e w7 ho
      rw [HU.out] at ho
      obtain ⟨rfl, hb⟩ : e = .returned (.tuple #[.agg #[.int .i64 u.a.re, .int .i64 u.a.im, .int .i64 u.a.den, .int .i64 u.b.re, .int .i64 u.b.im, .int .i64 u.b.den, .int .i64 u.c.re, .int .i64 u.c.im, .int .i64 u.c.den, .int .i64 u.d.re, .int .i64 u.d.im, .int .i64 u.d.den], .bool true]) ∧ Below _ _ _ := ho.fn
      clear ho
      have HB := Lib.hid (show Below w.heap.size w w7 from HB.out.trans ((show Below _ _ _ from (((Below.refl _ _).alloc (by first | omega | (simp; done) | (simp <;> omega)) _).alloc (by first | omega | (simp; done) | (simp <;> omega)) _)).trans (hb.mono (by first | omega | (simp <;> omega)))))
      have Ho : Hid (w7.rangeAt (w2.heap.size) 0 [.int .i64 m.a.re, .int .i64 m.a.im, .int .i64 m.a.den, .int .i64 m.b.re, .int .i64 m.b.im, .int .i64 m.b.den, .int .i64 m.c.re, .int .i64 m.c.im, .int .i64 m.c.den, .int .i64 m.d.re, .int .i64 m.d.im, .int .i64 m.d.den]) := rangeAt_below (World.rangeAt_alloc (World.rangeAt_alloc Ho.out _) _) hb (by first | omega | (simp; done) | (simp <;> omega))
      have Hqq : Hid (w7.rangeAt (w3.heap.size) 0 [.int .i64 m.a.re, .int .i64 m.a.im, .int .i64 m.a.den, .int .i64 m.b.re, .int .i64 m.b.im, .int .i64 m.b.den, .int .i64 m.c.re, .int .i64 m.c.im, .int .i64 m.c.den, .int .i64 m.d.re, .int .i64 m.d.im, .int .i64 m.d.den]) := rangeAt_below (World.rangeAt_alloc (World.rangeAt_alloc Hqq.out _) _) hb (by first | omega | (simp; done) | (simp <;> omega))
      have Had : Hid (w7.rangeAt (w4.heap.size) 0 [.int .i64 c.a.re, .int .i64 c.a.im, .int .i64 c.a.den, .int .i64 c.b.re, .int .i64 c.b.im, .int .i64 c.b.den, .int .i64 c.c.re, .int .i64 c.c.im, .int .i64 c.c.den, .int .i64 c.d.re, .int .i64 c.d.im, .int .i64 c.d.den]) := rangeAt_below (World.rangeAt_alloc (World.rangeAt_alloc Had.out _) _) hb (by first | omega | (simp; done) | (simp <;> omega))
      have Haa : Hid (w7.rangeAt (w5.heap.size) 0 [.int .i64 A.a.re, .int .i64 A.a.im, .int .i64 A.a.den, .int .i64 A.b.re, .int .i64 A.b.im, .int .i64 A.b.den, .int .i64 A.c.re, .int .i64 A.c.im, .int .i64 A.c.den, .int .i64 A.d.re, .int .i64 A.d.im, .int .i64 A.d.den]) := rangeAt_below (World.rangeAt_alloc (World.rangeAt_alloc Haa.out _) _) hb (by first | omega | (simp; done) | (simp <;> omega))
      have Hbd : Hid (w7.rangeAt (w6.heap.size) 0 [.int .i64 d.re, .int .i64 d.im, .int .i64 d.den]) := rangeAt_below (World.rangeAt_alloc (rangeAt_new _ _ _) _) hb (by first | omega | (simp; done) | (simp <;> omega))
      have Hpw : Hid (w7.rangeAt (w6.heap.size + 1) 0 [.int .i64 1, .int .i64 0, .int .i64 1, .int .i64 0, .int .i64 1, .int .i64 1, .int .i64 (-1), .int .i64 0, .int .i64 1, .int .i64 0, .int .i64 (-1), .int .i64 1]) := rangeAt_below (rangeAt_nw (by simp)) hb (by first | omega | (simp; done) | (simp <;> omega))
      have hz7 := hb.size
      (try simp at hz7)
      clear hb
      have nA0 : w2.heap.size < w7.heap.size := by omega
      have nB0 : ¬ w2.heap.size = w7.heap.size := by omega
      have nC0 : ¬ w7.heap.size = w2.heap.size := by omega
      have nA1 : w3.heap.size < w7.heap.size := by omega
      have nB1 : ¬ w3.heap.size = w7.heap.size := by omega
      have nC1 : ¬ w7.heap.size = w3.heap.size := by omega
      have nA2 : w4.heap.size < w7.heap.size := by omega
      have nB2 : ¬ w4.heap.size = w7.heap.size := by omega
      have nC2 : ¬ w7.heap.size = w4.heap.size := by omega
      have nA3 : w5.heap.size < w7.heap.size := by omega
      have nB3 : ¬ w5.heap.size = w7.heap.size := by omega
      have nC3 : ¬ w7.heap.size = w5.heap.size := by omega
      have nA4 : w6.heap.size < w7.heap.size := by omega
      have nB4 : ¬ w6.heap.size = w7.heap.size := by omega
      have nC4 : ¬ w7.heap.size = w6.heap.size := by omega
      have nA5 : w6.heap.size + 1 < w7.heap.size := by omega
      have nB5 : ¬ w6.heap.size + 1 = w7.heap.size := by omega
      have nC5 : ¬ w7.heap.size = w6.heap.size + 1 := by omega
      go_wp2_with (first | ((with_reducible refine wpList_load_mid ?kl51 41 ?kl5x ?kl52 (w2.heap.size) 0 ?kl53 [.int .i64 m.a.re, .int .i64 m.a.im, .int .i64 m.a.den, .int .i64 m.b.re, .int .i64 m.b.im, .int .i64 m.b.den, .int .i64 m.c.re, .int .i64 m.c.im, .int .i64 m.c.den, .int .i64 m.d.re, .int .i64 m.d.im, .int .i64 m.d.den] ?kl5d ?kl54 ?kl55 ?kl56 ?kl57 ?kl58); (case kl52 => rfl); (case kl51 => rfl); (case kl53 => rfl); (case kl54 => (exact (World.rangeAt_alloc Ho.out _))); (case kl55 => exact Tryd.underlying41); (case kl56 => rfl); (case kl57 => kernel_rfl)) | ((with_reducible refine wpList_load_mid ?kl61 41 ?kl6x ?kl62 (w7.heap.size) 0 ?kl63 [.int .i64 u.a.re, .int .i64 u.a.im, .int .i64 u.a.den, .int .i64 u.b.re, .int .i64 u.b.im, .int .i64 u.b.den, .int .i64 u.c.re, .int .i64 u.c.im, .int .i64 u.c.den, .int .i64 u.d.re, .int .i64 u.d.im, .int .i64 u.d.den] ?kl6d ?kl64 ?kl65 ?kl66 ?kl67 ?kl68); (case kl62 => rfl); (case kl61 => rfl); (case kl63 => rfl); (case kl64 => (exact (rangeAt_new _ _ _))); (case kl65 => exact Tryd.underlying41); (case kl66 => rfl); (case kl67 => kernel_rfl)))
      refine (imtm_m m u _).mono ?_
      rintro e w8 ho
      rw [HV.out] at ho
      obtain ⟨rfl, hb⟩ : e = .returned (.tuple #[.agg #[.int .i64 X.a.re, .int .i64 X.a.im, .int .i64 X.a.den, .int .i64 X.b.re, .int .i64 X.b.im, .int .i64 X.b.den, .int .i64 X.c.re, .int .i64 X.c.im, .int .i64 X.c.den, .int .i64 X.d.re, .int .i64 X.d.im, .int .i64 X.d.den], .bool v]) ∧ Below _ _ _ := ho.fn
      clear ho
      have HB := Lib.hid (show Below w.heap.size w w8 from HB.out.trans ((show Below _ _ _ from ((Below.refl _ _).alloc (by first | omega | (simp; done) | (simp <;> omega)) _)).trans (hb.mono (by first | omega | (simp <;> omega)))))
      have Ho : Hid (w8.rangeAt (w2.heap.size) 0 [.int .i64 m.a.re, .int .i64 m.a.im, .int .i64 m.a.den, .int .i64 m.b.re, .int .i64 m.b.im, .int .i64 m.b.den, .int .i64 m.c.re, .int .i64 m.c.im, .int .i64 m.c.den, .int .i64 m.d.re, .int .i64 m.d.im, .int .i64 m.d.den]) := rangeAt_below (World.rangeAt_alloc Ho.out _) hb (by first | omega | (simp; done) | (simp <;> omega))
      have Hqq : Hid (w8.rangeAt (w3.heap.size) 0 [.int .i64 m.a.re, .int .i64 m.a.im, .int .i64 m.a.den, .int .i64 m.b.re, .int .i64 m.b.im, .int .i64 m.b.den, .int .i64 m.c.re, .int .i64 m.c.im, .int .i64 m.c.den, .int .i64 m.d.re, .int .i64 m.d.im, .int .i64 m.d.den]) := rangeAt_below (World.rangeAt_alloc Hqq.out _) hb (by first | omega | (simp; done) | (simp <;> omega))
      have Had : Hid (w8.rangeAt (w4.heap.size) 0 [.int .i64 c.a.re, .int .i64 c.a.im, .int .i64 c.a.den, .int .i64 c.b.re, .int .i64 c.b.im, .int .i64 c.b.den, .int .i64 c.c.re, .int .i64 c.c.im, .int .i64 c.c.den, .int .i64 c.d.re, .int .i64 c.d.im, .int .i64 c.d.den]) := rangeAt_below (World.rangeAt_alloc Had.out _) hb (by first | omega | (simp; done) | (simp <;> omega))
      have Haa : Hid (w8.rangeAt (w5.heap.size) 0 [.int .i64 A.a.re, .int .i64 A.a.im, .int .i64 A.a.den, .int .i64 A.b.re, .int .i64 A.b.im, .int .i64 A.b.den, .int .i64 A.c.re, .int .i64 A.c.im, .int .i64 A.c.den, .int .i64 A.d.re, .int .i64 A.d.im, .int .i64 A.d.den]) := rangeAt_below (World.rangeAt_alloc Haa.out _) hb (by first | omega | (simp; done) | (simp <;> omega))
      have Hbd : Hid (w8.rangeAt (w6.heap.size) 0 [.int .i64 d.re, .int .i64 d.im, .int .i64 d.den]) := rangeAt_below (World.rangeAt_alloc Hbd.out _) hb (by first | omega | (simp; done) | (simp <;> omega))
      have Hpw : Hid (w8.rangeAt (w6.heap.size + 1) 0 [.int .i64 1, .int .i64 0, .int .i64 1, .int .i64 0, .int .i64 1, .int .i64 1, .int .i64 (-1), .int .i64 0, .int .i64 1, .int .i64 0, .int .i64 (-1), .int .i64 1]) := rangeAt_below (World.rangeAt_alloc Hpw.out _) hb (by first | omega | (simp; done) | (simp <;> omega))
      have Hon : Hid (w8.rangeAt (w7.heap.size) 0 [.int .i64 u.a.re, .int .i64 u.a.im, .int .i64 u.a.den, .int .i64 u.b.re, .int .i64 u.b.im, .int .i64 u.b.den, .int .i64 u.c.re, .int .i64 u.c.im, .int .i64 u.c.den, .int .i64 u.d.re, .int .i64 u.d.im, .int .i64 u.d.den]) := rangeAt_below (rangeAt_new _ _ _) hb (by first | omega | (simp; done) | (simp <;> omega))
      have hz8 := hb.size
      (try simp at hz8)
      clear hb
      have nA0 : w2.heap.size < w8.heap.size := by omega
      have nB0 : ¬ w2.heap.size = w8.heap.size := by omega
      have nC0 : ¬ w8.heap.size = w2.heap.size := by omega
      have nA1 : w3.heap.size < w8.heap.size := by omega
      have nB1 : ¬ w3.heap.size = w8.heap.size := by omega
      have nC1 : ¬ w8.heap.size = w3.heap.size := by omega
      have nA2 : w4.heap.size < w8.heap.size := by omega
      have nB2 : ¬ w4.heap.size = w8.heap.size := by omega
      have nC2 : ¬ w8.heap.size = w4.heap.size := by omega
      have nA3 : w5.heap.size < w8.heap.size := by omega
      have nB3 : ¬ w5.heap.size = w8.heap.size := by omega
      have nC3 : ¬ w8.heap.size = w5.heap.size := by omega
      have nA4 : w6.heap.size < w8.heap.size := by omega
      have nB4 : ¬ w6.heap.size = w8.heap.size := by omega
      have nC4 : ¬ w8.heap.size = w6.heap.size := by omega
      have nA5 : w6.heap.size + 1 < w8.heap.size := by omega
      have nB5 : ¬ w6.heap.size + 1 = w8.heap.size := by omega
      have nC5 : ¬ w8.heap.size = w6.heap.size + 1 := by omega
      have nA6 : w7.heap.size < w8.heap.size := by omega
      have nB6 : ¬ w7.heap.size = w8.heap.size := by omega
      have nC6 : ¬ w8.heap.size = w7.heap.size := by omega
      go_wp2_with fail
      refine (ipla_any p q (((n : Int) + 1) % 4) _ (HG_one.out.below (Below.alloc HB.out (by first | omega | (simp; done) | (simp <;> omega)) _)) (HG_zero.out.below (Below.alloc HB.out (by first | omega | (simp; done) | (simp <;> omega)) _)) (HG_turns.out.below (Below.alloc HB.out (by first | omega | (simp; done) | (simp <;> omega)) _))).mono ?_
      rintro e w9 ho
      rw [HY.out] at ho
      obtain ⟨rfl, hb⟩ : e = .returned (.tuple #[.agg #[.int .i64 y.a.re, .int .i64 y.a.im, .int .i64 y.a.den, .int .i64 y.b.re, .int .i64 y.b.im, .int .i64 y.b.den, .int .i64 y.c.re, .int .i64 y.c.im, .int .i64 y.c.den, .int .i64 y.d.re, .int .i64 y.d.im, .int .i64 y.d.den], .bool true]) ∧ Below _ _ _ := ho.fn
      clear ho
      have HB := Lib.hid (show Below w.heap.size w w9 from HB.out.trans ((show Below _ _ _ from ((Below.refl _ _).alloc (by first | omega | (simp; done) | (simp <;> omega)) _)).trans (hb.mono (by first | omega | (simp <;> omega)))))
      have Ho : Hid (w9.rangeAt (w2.heap.size) 0 [.int .i64 m.a.re, .int .i64 m.a.im, .int .i64 m.a.den, .int .i64 m.b.re, .int .i64 m.b.im, .int .i64 m.b.den, .int .i64 m.c.re, .int .i64 m.c.im, .int .i64 m.c.den, .int .i64 m.d.re, .int .i64 m.d.im, .int .i64 m.d.den]) := rangeAt_below (World.rangeAt_alloc Ho.out _) hb (by first | omega | (simp; done) | (simp <;> omega))
      have Hqq : Hid (w9.rangeAt (w3.heap.size) 0 [.int .i64 m.a.re, .int .i64 m.a.im, .int .i64 m.a.den, .int .i64 m.b.re, .int .i64 m.b.im, .int .i64 m.b.den, .int .i64 m.c.re, .int .i64 m.c.im, .int .i64 m.c.den, .int .i64 m.d.re, .int .i64 m.d.im, .int .i64 m.d.den]) := rangeAt_below (World.rangeAt_alloc Hqq.out _) hb (by first | omega | (simp; done) | (simp <;> omega))
      have Had : Hid (w9.rangeAt (w4.heap.size) 0 [.int .i64 c.a.re, .int .i64 c.a.im, .int .i64 c.a.den, .int .i64 c.b.re, .int .i64 c.b.im, .int .i64 c.b.den, .int .i64 c.c.re, .int .i64 c.c.im, .int .i64 c.c.den, .int .i64 c.d.re, .int .i64 c.d.im, .int .i64 c.d.den]) := rangeAt_below (World.rangeAt_alloc Had.out _) hb (by first | omega | (simp; done) | (simp <;> omega))
      have Haa : Hid (w9.rangeAt (w5.heap.size) 0 [.int .i64 A.a.re, .int .i64 A.a.im, .int .i64 A.a.den, .int .i64 A.b.re, .int .i64 A.b.im, .int .i64 A.b.den, .int .i64 A.c.re, .int .i64 A.c.im, .int .i64 A.c.den, .int .i64 A.d.re, .int .i64 A.d.im, .int .i64 A.d.den]) := rangeAt_below (World.rangeAt_alloc Haa.out _) hb (by first | omega | (simp; done) | (simp <;> omega))
      have Hbd : Hid (w9.rangeAt (w6.heap.size) 0 [.int .i64 d.re, .int .i64 d.im, .int .i64 d.den]) := rangeAt_below (World.rangeAt_alloc Hbd.out _) hb (by first | omega | (simp; done) | (simp <;> omega))
      have Hpw : Hid (w9.rangeAt (w6.heap.size + 1) 0 [.int .i64 1, .int .i64 0, .int .i64 1, .int .i64 0, .int .i64 1, .int .i64 1, .int .i64 (-1), .int .i64 0, .int .i64 1, .int .i64 0, .int .i64 (-1), .int .i64 1]) := rangeAt_below (World.rangeAt_alloc Hpw.out _) hb (by first | omega | (simp; done) | (simp <;> omega))
      have Hon : Hid (w9.rangeAt (w7.heap.size) 0 [.int .i64 u.a.re, .int .i64 u.a.im, .int .i64 u.a.den, .int .i64 u.b.re, .int .i64 u.b.im, .int .i64 u.b.den, .int .i64 u.c.re, .int .i64 u.c.im, .int .i64 u.c.den, .int .i64 u.d.re, .int .i64 u.d.im, .int .i64 u.d.den]) := rangeAt_below (World.rangeAt_alloc Hon.out _) hb (by first | omega | (simp; done) | (simp <;> omega))
      have Hbx : Hid (w9.rangeAt (w8.heap.size) 0 [.int .i64 X.a.re, .int .i64 X.a.im, .int .i64 X.a.den, .int .i64 X.b.re, .int .i64 X.b.im, .int .i64 X.b.den, .int .i64 X.c.re, .int .i64 X.c.im, .int .i64 X.c.den, .int .i64 X.d.re, .int .i64 X.d.im, .int .i64 X.d.den]) := rangeAt_below (rangeAt_new _ _ _) hb (by first | omega | (simp; done) | (simp <;> omega))
      have hz9 := hb.size
      (try simp at hz9)
      clear hb
      have nA0 : w2.heap.size < w9.heap.size := by omega
      have nB0 : ¬ w2.heap.size = w9.heap.size := by omega
      have nC0 : ¬ w9.heap.size = w2.heap.size := by omega
      have nA1 : w3.heap.size < w9.heap.size := by omega
      have nB1 : ¬ w3.heap.size = w9.heap.size := by omega
      have nC1 : ¬ w9.heap.size = w3.heap.size := by omega
      have nA2 : w4.heap.size < w9.heap.size := by omega
      have nB2 : ¬ w4.heap.size = w9.heap.size := by omega
      have nC2 : ¬ w9.heap.size = w4.heap.size := by omega
      have nA3 : w5.heap.size < w9.heap.size := by omega
      have nB3 : ¬ w5.heap.size = w9.heap.size := by omega
      have nC3 : ¬ w9.heap.size = w5.heap.size := by omega
      have nA4 : w6.heap.size < w9.heap.size := by omega
      have nB4 : ¬ w6.heap.size = w9.heap.size := by omega
      have nC4 : ¬ w9.heap.size = w6.heap.size := by omega
      have nA5 : w6.heap.size + 1 < w9.heap.size := by omega
      have nB5 : ¬ w6.heap.size + 1 = w9.heap.size := by omega
      have nC5 : ¬ w9.heap.size = w6.heap.size + 1 := by omega
      have nA6 : w7.heap.size < w9.heap.size := by omega
      have nB6 : ¬ w7.heap.size = w9.heap.size := by omega
      have nC6 : ¬ w9.heap.size = w7.heap.size := by omega
      have nA7 : w8.heap.size < w9.heap.size := by omega
      have nB7 : ¬ w8.heap.size = w9.heap.size := by omega
      have nC7 : ¬ w9.heap.size = w8.heap.size := by omega
      cases s <;> cases t <;> cases v
      · skip
        clear HW1 HW2 HW3
        go_wp2_with fail
        refine wp_region_held_drew (S := (fun w' => True)) (by kernel_rfl) (show _ from trivial) (fun hHeld => ?_)
        refine wpAnyH_take (i := 0) (v := ?_) rfl (by kernel_rfl) (by kernel_rfl) (by kernel_rfl) (fun _ _ _ h => h) (Or.inl ⟨by rfl, ?_⟩) (by assumption) ?_
        rotate_left
        (focus (intro w hSw; (try dsimp only at hSw); go_simp; (try with_reducible rfl)))
        (try simp only [Act.put, List.getElem_toArray, List.getElem_cons_zero, List.setIfInBounds_toArray, List.set_cons_zero, List.set_cons_succ])
        refine wpAnyH_take (i := 1) (v := ?_) rfl (by kernel_rfl) (by kernel_rfl) (by kernel_rfl) (fun _ _ _ h => h) (Or.inl ⟨by rfl, ?_⟩) (by assumption) ?_
        rotate_left
        (focus (intro w hSw; (try dsimp only at hSw); go_simp; (try with_reducible rfl)))
        (try simp only [Act.put, List.getElem_toArray, List.getElem_cons_succ, List.getElem_cons_zero, List.setIfInBounds_toArray, List.set_cons_zero, List.set_cons_succ])
        refine wpAnyH_take (i := 2) (v := ?_) rfl (by kernel_rfl) (by kernel_rfl) (by kernel_rfl) (fun _ _ _ h => h) (Or.inl ⟨by rfl, ?_⟩) (by assumption) ?_
        rotate_left
        (focus (intro w hSw; (try dsimp only at hSw); go_simp; (try with_reducible rfl)))
        (try simp only [Act.put, List.getElem_toArray, List.getElem_cons_succ, List.getElem_cons_zero, List.setIfInBounds_toArray, List.set_cons_zero, List.set_cons_succ])
        refine wpAnyH_take (i := 3) (v := ?_) rfl (by kernel_rfl) (by kernel_rfl) (by kernel_rfl) (fun _ _ _ h => h) (Or.inl ⟨by rfl, ?_⟩) (by assumption) ?_
        rotate_left
        (focus (intro w hSw; (try dsimp only at hSw); go_simp; (try with_reducible rfl)))
        (try simp only [Act.put, List.getElem_toArray, List.getElem_cons_succ, List.getElem_cons_zero, List.setIfInBounds_toArray, List.set_cons_zero, List.set_cons_succ])
        refine wpAnyH_take (i := 4) (v := ?_) rfl (by kernel_rfl) (by kernel_rfl) (by kernel_rfl) (fun _ _ _ h => h) (Or.inl ⟨by rfl, ?_⟩) (by assumption) ?_
        rotate_left
        (focus (intro w hSw; (try dsimp only at hSw); go_simp; (try with_reducible rfl)))
        (try simp only [Act.put, List.getElem_toArray, List.getElem_cons_succ, List.getElem_cons_zero, List.setIfInBounds_toArray, List.set_cons_zero, List.set_cons_succ])
        refine wpAnyH_take (i := 5) rfl (by kernel_rfl) (by kernel_rfl) (by kernel_rfl) (fun _ _ _ h => h) (Or.inr ⟨by rfl, rfl⟩) (by assumption) ?_
        (try simp only [Act.put, List.getElem_toArray, List.getElem_cons_succ, List.getElem_cons_zero, List.setIfInBounds_toArray, List.set_cons_zero, List.set_cons_succ])
        refine wpAnyH_take (i := 6) rfl (by kernel_rfl) (by kernel_rfl) (by kernel_rfl) (fun _ _ _ h => h) (Or.inr ⟨by rfl, rfl⟩) (by assumption) ?_
        (try simp only [Act.put, List.getElem_toArray, List.getElem_cons_succ, List.getElem_cons_zero, List.setIfInBounds_toArray, List.set_cons_zero, List.set_cons_succ])
        refine wpAnyH_take (i := 7) (v := ?_) rfl (by kernel_rfl) (by kernel_rfl) (by kernel_rfl) (fun _ _ _ h => h) (Or.inl ⟨by rfl, ?_⟩) (by assumption) ?_
        rotate_left
        (focus (intro w hSw; (try dsimp only at hSw); go_simp; (try with_reducible rfl)))
        (try simp only [Act.put, List.getElem_toArray, List.getElem_cons_succ, List.getElem_cons_zero, List.setIfInBounds_toArray, List.set_cons_zero, List.set_cons_succ])
        refine wpAnyH_take (i := 8) (v := ?_) rfl (by kernel_rfl) (by kernel_rfl) (by kernel_rfl) (fun _ _ _ h => h) (Or.inl ⟨by rfl, ?_⟩) (by assumption) ?_
        rotate_left
        (focus (intro w hSw; (try dsimp only at hSw); go_simp; (try with_reducible rfl)))
        (try simp only [Act.put, List.getElem_toArray, List.getElem_cons_succ, List.getElem_cons_zero, List.setIfInBounds_toArray, List.set_cons_zero, List.set_cons_succ])
        refine wpAnyH_take (i := 9) (v := ?_) rfl (by kernel_rfl) (by kernel_rfl) (by kernel_rfl) (fun _ _ _ h => h) (Or.inl ⟨by rfl, ?_⟩) (by assumption) ?_
        rotate_left
        (focus (intro w hSw; (try dsimp only at hSw); go_simp; (try with_reducible rfl)))
        (try simp only [Act.put, List.getElem_toArray, List.getElem_cons_succ, List.getElem_cons_zero, List.setIfInBounds_toArray, List.set_cons_zero, List.set_cons_succ])
        refine wpAnyH_take (i := 10) (v := ?_) rfl (by kernel_rfl) (by kernel_rfl) (by kernel_rfl) (fun _ _ _ h => h) (Or.inl ⟨by rfl, ?_⟩) (by assumption) ?_
        rotate_left
        (focus (intro w hSw; (try dsimp only at hSw); go_simp; (try with_reducible rfl)))
        (try simp only [Act.put, List.getElem_toArray, List.getElem_cons_succ, List.getElem_cons_zero, List.setIfInBounds_toArray, List.set_cons_zero, List.set_cons_succ])
        refine wpAnyH_take (i := 11) (v := ?_) rfl (by kernel_rfl) (by kernel_rfl) (by kernel_rfl) (fun _ _ _ h => h) (Or.inl ⟨by rfl, ?_⟩) (by assumption) ?_
        rotate_left
        (focus (intro w hSw; (try dsimp only at hSw); go_simp; (try with_reducible rfl)))
        (try simp only [Act.put, List.getElem_toArray, List.getElem_cons_succ, List.getElem_cons_zero, List.setIfInBounds_toArray, List.set_cons_zero, List.set_cons_succ])
        refine wpAnyH_take (i := 12) (v := ?_) rfl (by kernel_rfl) (by kernel_rfl) (by kernel_rfl) (fun _ _ _ h => h) (Or.inl ⟨by rfl, ?_⟩) (by assumption) ?_
        rotate_left
        (focus (intro w hSw; (try dsimp only at hSw); go_simp; (try with_reducible rfl)))
        (try simp only [Act.put, List.getElem_toArray, List.getElem_cons_succ, List.getElem_cons_zero, List.setIfInBounds_toArray, List.set_cons_zero, List.set_cons_succ])
        refine wpAnyH_take (i := 13) rfl (by kernel_rfl) (by kernel_rfl) (by kernel_rfl) (fun _ _ _ h => h) (Or.inr ⟨by rfl, rfl⟩) (by assumption) ?_
        (try simp only [Act.put, List.getElem_toArray, List.getElem_cons_succ, List.getElem_cons_zero, List.setIfInBounds_toArray, List.set_cons_zero, List.set_cons_succ])
        refine wpAnyH_take (i := 14) rfl (by kernel_rfl) (by kernel_rfl) (by kernel_rfl) (fun _ _ _ h => h) (Or.inr ⟨by rfl, rfl⟩) (by assumption) ?_
        (try simp only [Act.put, List.getElem_toArray, List.getElem_cons_succ, List.getElem_cons_zero, List.setIfInBounds_toArray, List.set_cons_zero, List.set_cons_succ])
        refine wpAnyH_take (i := 15) rfl (by kernel_rfl) (by kernel_rfl) (by kernel_rfl) (fun _ _ _ h => h) (Or.inr ⟨by rfl, rfl⟩) (by assumption) ?_
        (try simp only [Act.put, List.getElem_toArray, List.getElem_cons_succ, List.getElem_cons_zero, List.setIfInBounds_toArray, List.set_cons_zero, List.set_cons_succ])
        refine wpAnyH_take (i := 16) rfl (by kernel_rfl) (by kernel_rfl) (by kernel_rfl) (fun _ _ _ h => h) (Or.inr ⟨by rfl, rfl⟩) (by assumption) ?_
        (try simp only [Act.put, List.getElem_toArray, List.getElem_cons_succ, List.getElem_cons_zero, List.setIfInBounds_toArray, List.set_cons_zero, List.set_cons_succ])
        refine wpAnyH_take (i := 17) rfl (by kernel_rfl) (by kernel_rfl) (by kernel_rfl) (fun _ _ _ h => h) (Or.inr ⟨by rfl, rfl⟩) (by assumption) ?_
        (try simp only [Act.put, List.getElem_toArray, List.getElem_cons_succ, List.getElem_cons_zero, List.setIfInBounds_toArray, List.set_cons_zero, List.set_cons_succ])
        refine wpAnyH_take (i := 18) rfl (by kernel_rfl) (by kernel_rfl) (by kernel_rfl) (fun _ _ _ h => h) (Or.inr ⟨by rfl, rfl⟩) (by assumption) ?_
        (try simp only [Act.put, List.getElem_toArray, List.getElem_cons_succ, List.getElem_cons_zero, List.setIfInBounds_toArray, List.set_cons_zero, List.set_cons_succ])
        refine wpAnyH_take (i := 19) (v := ?_) rfl (by kernel_rfl) (by kernel_rfl) (by kernel_rfl) (fun _ _ _ h => h) (Or.inl ⟨by rfl, ?_⟩) (by assumption) ?_
        rotate_left
        (focus (intro w hSw; (try dsimp only at hSw); go_simp; (try with_reducible rfl)))
        (try simp only [Act.put, List.getElem_toArray, List.getElem_cons_succ, List.getElem_cons_zero, List.setIfInBounds_toArray, List.set_cons_zero, List.set_cons_succ])
        refine wpAnyH_take (i := 20) (v := ?_) rfl (by kernel_rfl) (by kernel_rfl) (by kernel_rfl) (fun _ _ _ h => h) (Or.inl ⟨by rfl, ?_⟩) (by assumption) ?_
        rotate_left
        (focus (intro w hSw; (try dsimp only at hSw); go_simp; (try with_reducible rfl)))
        (try simp only [Act.put, List.getElem_toArray, List.getElem_cons_succ, List.getElem_cons_zero, List.setIfInBounds_toArray, List.set_cons_zero, List.set_cons_succ])
        refine wpAnyH_take (i := 21) (v := ?_) rfl (by kernel_rfl) (by kernel_rfl) (by kernel_rfl) (fun _ _ _ h => h) (Or.inl ⟨by rfl, ?_⟩) (by assumption) ?_
        rotate_left
        (focus (intro w hSw; (try dsimp only at hSw); go_simp; (try with_reducible rfl)))
        (try simp only [Act.put, List.getElem_toArray, List.getElem_cons_succ, List.getElem_cons_zero, List.setIfInBounds_toArray, List.set_cons_zero, List.set_cons_succ])
        refine wpAnyH_take (i := 22) (v := ?_) rfl (by kernel_rfl) (by kernel_rfl) (by kernel_rfl) (fun _ _ _ h => h) (Or.inl ⟨by rfl, ?_⟩) (by assumption) ?_
        rotate_left
        (focus (intro w hSw; (try dsimp only at hSw); go_simp; (try with_reducible rfl)))
        (try simp only [Act.put, List.getElem_toArray, List.getElem_cons_succ, List.getElem_cons_zero, List.setIfInBounds_toArray, List.set_cons_zero, List.set_cons_succ])
        refine wpAnyH_take (i := 23) (v := ?_) rfl (by kernel_rfl) (by kernel_rfl) (by kernel_rfl) (fun _ _ _ h => h) (Or.inl ⟨by rfl, ?_⟩) (by assumption) ?_
        rotate_left
        (focus (intro w hSw; (try dsimp only at hSw); go_simp; (try with_reducible rfl)))
        (try simp only [Act.put, List.getElem_toArray, List.getElem_cons_succ, List.getElem_cons_zero, List.setIfInBounds_toArray, List.set_cons_zero, List.set_cons_succ])
        refine wpAnyH_take (i := 24) (v := ?_) rfl (by kernel_rfl) (by kernel_rfl) (by kernel_rfl) (fun _ _ _ h => h) (Or.inl ⟨by rfl, ?_⟩) (by assumption) ?_
        rotate_left
        (focus (intro w hSw; (try dsimp only at hSw); go_simp; (try with_reducible rfl)))
        (try simp only [Act.put, List.getElem_toArray, List.getElem_cons_succ, List.getElem_cons_zero, List.setIfInBounds_toArray, List.set_cons_zero, List.set_cons_succ])
        refine wpAnyH_take (i := 25) (v := ?_) rfl (by kernel_rfl) (by kernel_rfl) (by kernel_rfl) (fun _ _ _ h => h) (Or.inl ⟨by rfl, ?_⟩) (by assumption) ?_
        rotate_left
        (focus (intro w hSw; (try dsimp only at hSw); go_simp; (try with_reducible rfl)))
        (try simp only [Act.put, List.getElem_toArray, List.getElem_cons_succ, List.getElem_cons_zero, List.setIfInBounds_toArray, List.set_cons_zero, List.set_cons_succ])
        refine wpAnyH_take (i := 26) (v := ?_) rfl (by kernel_rfl) (by kernel_rfl) (by kernel_rfl) (fun _ _ _ h => h) (Or.inl ⟨by rfl, ?_⟩) (by assumption) ?_
        rotate_left
        (focus (intro w hSw; (try dsimp only at hSw); go_simp; (try with_reducible rfl)))
        (try simp only [Act.put, List.getElem_toArray, List.getElem_cons_succ, List.getElem_cons_zero, List.setIfInBounds_toArray, List.set_cons_zero, List.set_cons_succ])
        refine wpAnyH_take (i := 27) (v := ?_) rfl (by kernel_rfl) (by kernel_rfl) (by kernel_rfl) (fun _ _ _ h => h) (Or.inl ⟨by rfl, ?_⟩) (by assumption) ?_
        rotate_left
        (focus (intro w hSw; (try dsimp only at hSw); go_simp; (try with_reducible rfl)))
        (try simp only [Act.put, List.getElem_toArray, List.getElem_cons_succ, List.getElem_cons_zero, List.setIfInBounds_toArray, List.set_cons_zero, List.set_cons_succ])
        refine wpAnyH_take (i := 28) (v := ?_) rfl (by kernel_rfl) (by kernel_rfl) (by kernel_rfl) (fun _ _ _ h => h) (Or.inl ⟨by rfl, ?_⟩) (by assumption) ?_
        rotate_left
        (focus (intro w hSw; (try dsimp only at hSw); go_simp; (try with_reducible rfl)))
        (try simp only [Act.put, List.getElem_toArray, List.getElem_cons_succ, List.getElem_cons_zero, List.setIfInBounds_toArray, List.set_cons_zero, List.set_cons_succ])
        refine wpAnyH_take (i := 29) (v := ?_) rfl (by kernel_rfl) (by kernel_rfl) (by kernel_rfl) (fun _ _ _ h => h) (Or.inl ⟨by rfl, ?_⟩) (by assumption) ?_
        rotate_left
        (focus (intro w hSw; (try dsimp only at hSw); go_simp; (try with_reducible rfl)))
        (try simp only [Act.put, List.getElem_toArray, List.getElem_cons_succ, List.getElem_cons_zero, List.setIfInBounds_toArray, List.set_cons_zero, List.set_cons_succ])
        refine wpAnyH_take (i := 30) (v := ?_) rfl (by kernel_rfl) (by kernel_rfl) (by kernel_rfl) (fun _ _ _ h => h) (Or.inl ⟨by rfl, ?_⟩) (by assumption) ?_
        rotate_left
        (focus (intro w hSw; (try dsimp only at hSw); go_simp; (try with_reducible rfl)))
        (try simp only [Act.put, List.getElem_toArray, List.getElem_cons_succ, List.getElem_cons_zero, List.setIfInBounds_toArray, List.set_cons_zero, List.set_cons_succ])
        refine wpAnyH_take (i := 31) rfl (by kernel_rfl) (by kernel_rfl) (by kernel_rfl) (fun _ _ _ h => h) (Or.inr ⟨by rfl, rfl⟩) (by assumption) ?_
        (try simp only [Act.put, List.getElem_toArray, List.getElem_cons_succ, List.getElem_cons_zero, List.setIfInBounds_toArray, List.set_cons_zero, List.set_cons_succ])
        refine wpAnyH_take (i := 32) rfl (by kernel_rfl) (by kernel_rfl) (by kernel_rfl) (fun _ _ _ h => h) (Or.inr ⟨by rfl, rfl⟩) (by assumption) ?_
        (try simp only [Act.put, List.getElem_toArray, List.getElem_cons_succ, List.getElem_cons_zero, List.setIfInBounds_toArray, List.set_cons_zero, List.set_cons_succ])
        refine wpAnyH_take (i := 33) rfl (by kernel_rfl) (by kernel_rfl) (by kernel_rfl) (fun _ _ _ h => h) (Or.inr ⟨by rfl, rfl⟩) (by assumption) ?_
        (try simp only [Act.put, List.getElem_toArray, List.getElem_cons_succ, List.getElem_cons_zero, List.setIfInBounds_toArray, List.set_cons_zero, List.set_cons_succ])
        refine wpAnyH_take (i := 34) (v := ?_) rfl (by kernel_rfl) (by kernel_rfl) (by kernel_rfl) (fun _ _ _ h => h) (Or.inl ⟨by rfl, ?_⟩) (by assumption) ?_
        rotate_left
        (focus (intro w hSw; (try dsimp only at hSw); go_simp; (try with_reducible rfl)))
        (try simp only [Act.put, List.getElem_toArray, List.getElem_cons_succ, List.getElem_cons_zero, List.setIfInBounds_toArray, List.set_cons_zero, List.set_cons_succ])
        refine wpAnyH_take (i := 35) (v := ?_) rfl (by kernel_rfl) (by kernel_rfl) (by kernel_rfl) (fun _ _ _ h => h) (Or.inl ⟨by rfl, ?_⟩) (by assumption) ?_
        rotate_left
        (focus (intro w hSw; (try dsimp only at hSw); go_simp; (try with_reducible rfl)))
        (try simp only [Act.put, List.getElem_toArray, List.getElem_cons_succ, List.getElem_cons_zero, List.setIfInBounds_toArray, List.set_cons_zero, List.set_cons_succ])
        refine wpAnyH_take (i := 36) (v := ?_) rfl (by kernel_rfl) (by kernel_rfl) (by kernel_rfl) (fun _ _ _ h => h) (Or.inl ⟨by rfl, ?_⟩) (by assumption) ?_
        rotate_left
        (focus (intro w hSw; (try dsimp only at hSw); go_simp; (try with_reducible rfl)))
        (try simp only [Act.put, List.getElem_toArray, List.getElem_cons_succ, List.getElem_cons_zero, List.setIfInBounds_toArray, List.set_cons_zero, List.set_cons_succ])
        refine wpAnyH_done (by kernel_rfl) ?_ _
        clear hHeld
        go_wp2_with fail
        go_ret
        exact ⟨rfl, (by (repeat' first | (with_reducible exact HB.out) | with_reducible refine setCells_below _ _ _ ?_ (by first | omega | (simp <;> omega)) | with_reducible refine Below.setCell ?_ (by show _ ≤ _; first | omega | (simp <;> omega) | simp) _ | with_reducible refine Below.alloc ?_ (by first | omega | (simp <;> omega)) _ | with_reducible apply Below.drew | with_reducible refine below_drewN ?_ _))⟩
      · skip
        obtain rfl : X = y := HW3.out rfl
        have hEq2 : ∀ w, (Op.equalIn 10000 41 (.agg #[.int .i64 X.a.re, .int .i64 X.a.im, .int .i64 X.a.den, .int .i64 X.b.re, .int .i64 X.b.im, .int .i64 X.b.den, .int .i64 X.c.re, .int .i64 X.c.im, .int .i64 X.c.den, .int .i64 X.d.re, .int .i64 X.d.im, .int .i64 X.d.den]) (.agg #[.int .i64 X.a.re, .int .i64 X.a.im, .int .i64 X.a.den, .int .i64 X.b.re, .int .i64 X.b.im, .int .i64 X.b.den, .int .i64 X.c.re, .int .i64 X.c.im, .int .i64 X.c.den, .int .i64 X.d.re, .int .i64 X.d.im, .int .i64 X.d.den])).run Tryd.prog w = .ok true w := eqMat_run X
        clear HW1 HW2 HW3
        go_wp2_with fail
        refine wp_region_held_drew (S := (fun w' => (w'.cell? ⟨w8.heap.size, 0, none⟩ = some (.int .i64 X.a.re) ∧ w'.cell? ⟨w8.heap.size, 1, none⟩ = some (.int .i64 X.a.im) ∧ w'.cell? ⟨w8.heap.size, 2, none⟩ = some (.int .i64 X.a.den) ∧ w'.cell? ⟨w8.heap.size, 3, none⟩ = some (.int .i64 X.b.re) ∧ w'.cell? ⟨w8.heap.size, 4, none⟩ = some (.int .i64 X.b.im) ∧ w'.cell? ⟨w8.heap.size, 5, none⟩ = some (.int .i64 X.b.den) ∧ w'.cell? ⟨w8.heap.size, 6, none⟩ = some (.int .i64 X.c.re) ∧ w'.cell? ⟨w8.heap.size, 7, none⟩ = some (.int .i64 X.c.im) ∧ w'.cell? ⟨w8.heap.size, 8, none⟩ = some (.int .i64 X.c.den) ∧ w'.cell? ⟨w8.heap.size, 9, none⟩ = some (.int .i64 X.d.re) ∧ w'.cell? ⟨w8.heap.size, 10, none⟩ = some (.int .i64 X.d.im) ∧ w'.cell? ⟨w8.heap.size, 11, none⟩ = some (.int .i64 X.d.den)) ∧ (w'.cell? ⟨w9.heap.size, 0, none⟩ = some (.int .i64 X.a.re) ∧ w'.cell? ⟨w9.heap.size, 1, none⟩ = some (.int .i64 X.a.im) ∧ w'.cell? ⟨w9.heap.size, 2, none⟩ = some (.int .i64 X.a.den) ∧ w'.cell? ⟨w9.heap.size, 3, none⟩ = some (.int .i64 X.b.re) ∧ w'.cell? ⟨w9.heap.size, 4, none⟩ = some (.int .i64 X.b.im) ∧ w'.cell? ⟨w9.heap.size, 5, none⟩ = some (.int .i64 X.b.den) ∧ w'.cell? ⟨w9.heap.size, 6, none⟩ = some (.int .i64 X.c.re) ∧ w'.cell? ⟨w9.heap.size, 7, none⟩ = some (.int .i64 X.c.im) ∧ w'.cell? ⟨w9.heap.size, 8, none⟩ = some (.int .i64 X.c.den) ∧ w'.cell? ⟨w9.heap.size, 9, none⟩ = some (.int .i64 X.d.re) ∧ w'.cell? ⟨w9.heap.size, 10, none⟩ = some (.int .i64 X.d.im) ∧ w'.cell? ⟨w9.heap.size, 11, none⟩ = some (.int .i64 X.d.den)))) (by kernel_rfl) (show _ from ⟨(cellsM (show World.rangeAt (World.drew (w9.alloc (.cells #[.int .i64 X.a.re, .int .i64 X.a.im, .int .i64 X.a.den, .int .i64 X.b.re, .int .i64 X.b.im, .int .i64 X.b.den, .int .i64 X.c.re, .int .i64 X.c.im, .int .i64 X.c.den, .int .i64 X.d.re, .int .i64 X.d.im, .int .i64 X.d.den] 41))) (w8.heap.size) 0 [.int .i64 X.a.re, .int .i64 X.a.im, .int .i64 X.a.den, .int .i64 X.b.re, .int .i64 X.b.im, .int .i64 X.b.den, .int .i64 X.c.re, .int .i64 X.c.im, .int .i64 X.c.den, .int .i64 X.d.re, .int .i64 X.d.im, .int .i64 X.d.den] from (World.rangeAt_alloc Hbx.out _))), (cellsM (show World.rangeAt (World.drew (w9.alloc (.cells #[.int .i64 X.a.re, .int .i64 X.a.im, .int .i64 X.a.den, .int .i64 X.b.re, .int .i64 X.b.im, .int .i64 X.b.den, .int .i64 X.c.re, .int .i64 X.c.im, .int .i64 X.c.den, .int .i64 X.d.re, .int .i64 X.d.im, .int .i64 X.d.den] 41))) (w9.heap.size) 0 [.int .i64 X.a.re, .int .i64 X.a.im, .int .i64 X.a.den, .int .i64 X.b.re, .int .i64 X.b.im, .int .i64 X.b.den, .int .i64 X.c.re, .int .i64 X.c.im, .int .i64 X.c.den, .int .i64 X.d.re, .int .i64 X.d.im, .int .i64 X.d.den] from (rangeAt_new _ _ _)))⟩) (fun hHeld => ?_)
        refine wpAnyH_take (i := 0) (v := ?_) rfl (by kernel_rfl) (by kernel_rfl) (by kernel_rfl) (fun _ _ _ h => h) (Or.inl ⟨by rfl, ?_⟩) (by assumption) ?_
        rotate_left
        (focus (intro w hSw; (try dsimp only at hSw); go_simp; (try with_reducible rfl)))
        (try simp only [Act.put, List.getElem_toArray, List.getElem_cons_zero, List.setIfInBounds_toArray, List.set_cons_zero, List.set_cons_succ])
        refine wpAnyH_take (i := 1) (v := ?_) rfl (by kernel_rfl) (by kernel_rfl) (by kernel_rfl) (fun _ _ _ h => h) (Or.inl ⟨by rfl, ?_⟩) (by assumption) ?_
        rotate_left
        (focus (intro w hSw; (try dsimp only at hSw); go_simp; (try with_reducible rfl)))
        (try simp only [Act.put, List.getElem_toArray, List.getElem_cons_succ, List.getElem_cons_zero, List.setIfInBounds_toArray, List.set_cons_zero, List.set_cons_succ])
        refine wpAnyH_take (i := 2) (v := ?_) rfl (by kernel_rfl) (by kernel_rfl) (by kernel_rfl) (fun _ _ _ h => h) (Or.inl ⟨by rfl, ?_⟩) (by assumption) ?_
        rotate_left
        (focus (intro w hSw; (try dsimp only at hSw); go_simp; (try with_reducible rfl)))
        (try simp only [Act.put, List.getElem_toArray, List.getElem_cons_succ, List.getElem_cons_zero, List.setIfInBounds_toArray, List.set_cons_zero, List.set_cons_succ])
        refine wpAnyH_take (i := 3) (v := ?_) rfl (by kernel_rfl) (by kernel_rfl) (by kernel_rfl) (fun _ _ _ h => h) (Or.inl ⟨by rfl, ?_⟩) (by assumption) ?_
        rotate_left
        (focus (intro w hSw; (try dsimp only at hSw); go_simp; (try with_reducible rfl)))
        (try simp only [Act.put, List.getElem_toArray, List.getElem_cons_succ, List.getElem_cons_zero, List.setIfInBounds_toArray, List.set_cons_zero, List.set_cons_succ])
        refine wpAnyH_take (i := 4) (v := ?_) rfl (by kernel_rfl) (by kernel_rfl) (by kernel_rfl) (fun _ _ _ h => h) (Or.inl ⟨by rfl, ?_⟩) (by assumption) ?_
        rotate_left
        (focus (intro w hSw; (try dsimp only at hSw); go_simp; (try with_reducible rfl)))
        (try simp only [Act.put, List.getElem_toArray, List.getElem_cons_succ, List.getElem_cons_zero, List.setIfInBounds_toArray, List.set_cons_zero, List.set_cons_succ])
        refine wpAnyH_take (i := 5) rfl (by kernel_rfl) (by kernel_rfl) (by kernel_rfl) (fun _ _ _ h => h) (Or.inr ⟨by rfl, rfl⟩) (by assumption) ?_
        (try simp only [Act.put, List.getElem_toArray, List.getElem_cons_succ, List.getElem_cons_zero, List.setIfInBounds_toArray, List.set_cons_zero, List.set_cons_succ])
        refine wpAnyH_take (i := 6) rfl (by kernel_rfl) (by kernel_rfl) (by kernel_rfl) (fun _ _ _ h => h) (Or.inr ⟨by rfl, rfl⟩) (by assumption) ?_
        (try simp only [Act.put, List.getElem_toArray, List.getElem_cons_succ, List.getElem_cons_zero, List.setIfInBounds_toArray, List.set_cons_zero, List.set_cons_succ])
        refine wpAnyH_take (i := 7) (v := ?_) rfl (by kernel_rfl) (by kernel_rfl) (by kernel_rfl) (fun _ _ _ h => h) (Or.inl ⟨by rfl, ?_⟩) (by assumption) ?_
        rotate_left
        (focus (intro w hSw; (try dsimp only at hSw); go_simp; (try with_reducible rfl)))
        (try simp only [Act.put, List.getElem_toArray, List.getElem_cons_succ, List.getElem_cons_zero, List.setIfInBounds_toArray, List.set_cons_zero, List.set_cons_succ])
        refine wpAnyH_take (i := 8) (v := ?_) rfl (by kernel_rfl) (by kernel_rfl) (by kernel_rfl) (fun _ _ _ h => h) (Or.inl ⟨by rfl, ?_⟩) (by assumption) ?_
        rotate_left
        (focus (intro w hSw; (try dsimp only at hSw); go_simp; (try with_reducible rfl)))
        (try simp only [Act.put, List.getElem_toArray, List.getElem_cons_succ, List.getElem_cons_zero, List.setIfInBounds_toArray, List.set_cons_zero, List.set_cons_succ])
        refine wpAnyH_take (i := 9) (v := ?_) rfl (by kernel_rfl) (by kernel_rfl) (by kernel_rfl) (fun _ _ _ h => h) (Or.inl ⟨by rfl, ?_⟩) (by assumption) ?_
        rotate_left
        (focus (intro w hSw; (try dsimp only at hSw); go_simp; (try with_reducible rfl)))
        (try simp only [Act.put, List.getElem_toArray, List.getElem_cons_succ, List.getElem_cons_zero, List.setIfInBounds_toArray, List.set_cons_zero, List.set_cons_succ])
        refine wpAnyH_take (i := 10) (v := ?_) rfl (by kernel_rfl) (by kernel_rfl) (by kernel_rfl) (fun _ _ _ h => h) (Or.inl ⟨by rfl, ?_⟩) (by assumption) ?_
        rotate_left
        (focus (intro w hSw; (try dsimp only at hSw); go_simp; (try with_reducible rfl)))
        (try simp only [Act.put, List.getElem_toArray, List.getElem_cons_succ, List.getElem_cons_zero, List.setIfInBounds_toArray, List.set_cons_zero, List.set_cons_succ])
        refine wpAnyH_take (i := 11) (v := ?_) rfl (by kernel_rfl) (by kernel_rfl) (by kernel_rfl) (fun _ _ _ h => h) (Or.inl ⟨by rfl, ?_⟩) (by assumption) ?_
        rotate_left
        (focus (intro w hSw; (try dsimp only at hSw); go_simp; (try with_reducible rfl)))
        (try simp only [Act.put, List.getElem_toArray, List.getElem_cons_succ, List.getElem_cons_zero, List.setIfInBounds_toArray, List.set_cons_zero, List.set_cons_succ])
        refine wpAnyH_take (i := 12) (v := ?_) rfl (by kernel_rfl) (by kernel_rfl) (by kernel_rfl) (fun _ _ _ h => h) (Or.inl ⟨by rfl, ?_⟩) (by assumption) ?_
        rotate_left
        (focus (intro w hSw; (try dsimp only at hSw); go_simp; (try with_reducible rfl)))
        (try simp only [Act.put, List.getElem_toArray, List.getElem_cons_succ, List.getElem_cons_zero, List.setIfInBounds_toArray, List.set_cons_zero, List.set_cons_succ])
        refine wpAnyH_take (i := 13) rfl (by kernel_rfl) (by kernel_rfl) (by kernel_rfl) (fun _ _ _ h => h) (Or.inr ⟨by rfl, rfl⟩) (by assumption) ?_
        (try simp only [Act.put, List.getElem_toArray, List.getElem_cons_succ, List.getElem_cons_zero, List.setIfInBounds_toArray, List.set_cons_zero, List.set_cons_succ])
        refine wpAnyH_take (i := 14) rfl (by kernel_rfl) (by kernel_rfl) (by kernel_rfl) (fun _ _ _ h => h) (Or.inr ⟨by rfl, rfl⟩) (by assumption) ?_
        (try simp only [Act.put, List.getElem_toArray, List.getElem_cons_succ, List.getElem_cons_zero, List.setIfInBounds_toArray, List.set_cons_zero, List.set_cons_succ])
        refine wpAnyH_take (i := 15) rfl (by kernel_rfl) (by kernel_rfl) (by kernel_rfl) (fun _ _ _ h => h) (Or.inr ⟨by rfl, rfl⟩) (by assumption) ?_
        (try simp only [Act.put, List.getElem_toArray, List.getElem_cons_succ, List.getElem_cons_zero, List.setIfInBounds_toArray, List.set_cons_zero, List.set_cons_succ])
        refine wpAnyH_take (i := 16) rfl (by kernel_rfl) (by kernel_rfl) (by kernel_rfl) (fun _ _ _ h => h) (Or.inr ⟨by rfl, rfl⟩) (by assumption) ?_
        (try simp only [Act.put, List.getElem_toArray, List.getElem_cons_succ, List.getElem_cons_zero, List.setIfInBounds_toArray, List.set_cons_zero, List.set_cons_succ])
        refine wpAnyH_take (i := 17) rfl (by kernel_rfl) (by kernel_rfl) (by kernel_rfl) (fun _ _ _ h => h) (Or.inr ⟨by rfl, rfl⟩) (by assumption) ?_
        (try simp only [Act.put, List.getElem_toArray, List.getElem_cons_succ, List.getElem_cons_zero, List.setIfInBounds_toArray, List.set_cons_zero, List.set_cons_succ])
        refine wpAnyH_take (i := 18) rfl (by kernel_rfl) (by kernel_rfl) (by kernel_rfl) (fun _ _ _ h => h) (Or.inr ⟨by rfl, rfl⟩) (by assumption) ?_
        (try simp only [Act.put, List.getElem_toArray, List.getElem_cons_succ, List.getElem_cons_zero, List.setIfInBounds_toArray, List.set_cons_zero, List.set_cons_succ])
        refine wpAnyH_take (i := 19) (v := ?_) rfl (by kernel_rfl) (by kernel_rfl) (by kernel_rfl) (fun _ _ _ h => h) (Or.inl ⟨by rfl, ?_⟩) (by assumption) ?_
        rotate_left
        (focus (intro w hSw; (try dsimp only at hSw); go_simp; (try with_reducible rfl)))
        (try simp only [Act.put, List.getElem_toArray, List.getElem_cons_succ, List.getElem_cons_zero, List.setIfInBounds_toArray, List.set_cons_zero, List.set_cons_succ])
        refine wpAnyH_take (i := 20) (v := ?_) rfl (by kernel_rfl) (by kernel_rfl) (by kernel_rfl) (fun _ _ _ h => h) (Or.inl ⟨by rfl, ?_⟩) (by assumption) ?_
        rotate_left
        (focus (intro w hSw; (try dsimp only at hSw); go_simp; (try with_reducible rfl)))
        (try simp only [Act.put, List.getElem_toArray, List.getElem_cons_succ, List.getElem_cons_zero, List.setIfInBounds_toArray, List.set_cons_zero, List.set_cons_succ])
        refine wpAnyH_take (i := 21) (v := ?_) rfl (by kernel_rfl) (by kernel_rfl) (by kernel_rfl) (fun _ _ _ h => h) (Or.inl ⟨by rfl, ?_⟩) (by assumption) ?_
        rotate_left
        (focus (intro w hSw; (try dsimp only at hSw); go_simp; (try with_reducible rfl)))
        (try simp only [Act.put, List.getElem_toArray, List.getElem_cons_succ, List.getElem_cons_zero, List.setIfInBounds_toArray, List.set_cons_zero, List.set_cons_succ])
        refine wpAnyH_take (i := 22) (v := ?_) rfl (by kernel_rfl) (by kernel_rfl) (by kernel_rfl) (fun _ _ _ h => h) (Or.inl ⟨by rfl, ?_⟩) (by assumption) ?_
        rotate_left
        (focus (intro w hSw; (try dsimp only at hSw); go_simp; (try with_reducible rfl)))
        (try simp only [Act.put, List.getElem_toArray, List.getElem_cons_succ, List.getElem_cons_zero, List.setIfInBounds_toArray, List.set_cons_zero, List.set_cons_succ])
        refine wpAnyH_take (i := 23) (v := ?_) rfl (by kernel_rfl) (by kernel_rfl) (by kernel_rfl) (fun _ _ _ h => h) (Or.inl ⟨by rfl, ?_⟩) (by assumption) ?_
        rotate_left
        (focus (intro w hSw; (try dsimp only at hSw); go_simp; (try with_reducible rfl)))
        (try simp only [Act.put, List.getElem_toArray, List.getElem_cons_succ, List.getElem_cons_zero, List.setIfInBounds_toArray, List.set_cons_zero, List.set_cons_succ])
        refine wpAnyH_take (i := 24) (v := ?_) rfl (by kernel_rfl) (by kernel_rfl) (by kernel_rfl) (fun _ _ _ h => h) (Or.inl ⟨by rfl, ?_⟩) (by assumption) ?_
        rotate_left
        (focus (intro w hSw; (try dsimp only at hSw); go_simp; (try with_reducible rfl)))
        (try simp only [Act.put, List.getElem_toArray, List.getElem_cons_succ, List.getElem_cons_zero, List.setIfInBounds_toArray, List.set_cons_zero, List.set_cons_succ])
        refine wpAnyH_take (i := 25) (v := ?_) rfl (by kernel_rfl) (by kernel_rfl) (by kernel_rfl) (fun _ _ _ h => h) (Or.inl ⟨by rfl, ?_⟩) (by assumption) ?_
        rotate_left
        (focus (intro w hSw; (try dsimp only at hSw); go_simp; (try with_reducible rfl)))
        (try simp only [Act.put, List.getElem_toArray, List.getElem_cons_succ, List.getElem_cons_zero, List.setIfInBounds_toArray, List.set_cons_zero, List.set_cons_succ])
        refine wpAnyH_take (i := 26) (v := ?_) rfl (by kernel_rfl) (by kernel_rfl) (by kernel_rfl) (fun _ _ _ h => h) (Or.inl ⟨by rfl, ?_⟩) (by assumption) ?_
        rotate_left
        (focus (intro w hSw; (try dsimp only at hSw); go_simp; (try with_reducible rfl)))
        (try simp only [Act.put, List.getElem_toArray, List.getElem_cons_succ, List.getElem_cons_zero, List.setIfInBounds_toArray, List.set_cons_zero, List.set_cons_succ])
        refine wpAnyH_take (i := 27) (v := ?_) rfl (by kernel_rfl) (by kernel_rfl) (by kernel_rfl) (fun _ _ _ h => h) (Or.inl ⟨by rfl, ?_⟩) (by assumption) ?_
        rotate_left
        (focus (intro w hSw; (try dsimp only at hSw); go_simp; (try with_reducible rfl)))
        (try simp only [Act.put, List.getElem_toArray, List.getElem_cons_succ, List.getElem_cons_zero, List.setIfInBounds_toArray, List.set_cons_zero, List.set_cons_succ])
        refine wpAnyH_take (i := 28) (v := ?_) rfl (by kernel_rfl) (by kernel_rfl) (by kernel_rfl) (fun _ _ _ h => h) (Or.inl ⟨by rfl, ?_⟩) (by assumption) ?_
        rotate_left
        (focus (intro w hSw; (try dsimp only at hSw); go_simp; (try with_reducible rfl)))
        (try simp only [Act.put, List.getElem_toArray, List.getElem_cons_succ, List.getElem_cons_zero, List.setIfInBounds_toArray, List.set_cons_zero, List.set_cons_succ])
        refine wpAnyH_take (i := 29) (v := ?_) rfl (by kernel_rfl) (by kernel_rfl) (by kernel_rfl) (fun _ _ _ h => h) (Or.inl ⟨by rfl, ?_⟩) (by assumption) ?_
        rotate_left
        (focus (intro w hSw; (try dsimp only at hSw); go_simp; (try with_reducible rfl)))
        (try simp only [Act.put, List.getElem_toArray, List.getElem_cons_succ, List.getElem_cons_zero, List.setIfInBounds_toArray, List.set_cons_zero, List.set_cons_succ])
        refine wpAnyH_take (i := 30) (v := ?_) rfl (by kernel_rfl) (by kernel_rfl) (by kernel_rfl) (fun _ _ _ h => h) (Or.inl ⟨by rfl, ?_⟩) (by assumption) ?_
        rotate_left
        (focus (intro w hSw; (try dsimp only at hSw); go_simp; (try with_reducible rfl)))
        (try simp only [Act.put, List.getElem_toArray, List.getElem_cons_succ, List.getElem_cons_zero, List.setIfInBounds_toArray, List.set_cons_zero, List.set_cons_succ])
        refine wpAnyH_take (i := 31) (v := ?_) rfl (by kernel_rfl) (by kernel_rfl) (by kernel_rfl) (fun _ _ _ h => h) (Or.inl ⟨by rfl, ?_⟩) (by assumption) ?_
        rotate_left
        (focus (intro w hSw; (try dsimp only at hSw); go_simp; (try with_reducible rfl)))
        (try simp only [Act.put, List.getElem_toArray, List.getElem_cons_succ, List.getElem_cons_zero, List.setIfInBounds_toArray, List.set_cons_zero, List.set_cons_succ])
        refine wpAnyH_take (i := 32) (v := ?_) rfl (by kernel_rfl) (by kernel_rfl) (by kernel_rfl) (fun _ _ _ h => h) (Or.inl ⟨by rfl, ?_⟩) (by assumption) ?_
        rotate_left
        (focus (intro w hSw; (try dsimp only at hSw); go_simp; (try with_reducible rfl)))
        (try simp only [Act.put, List.getElem_toArray, List.getElem_cons_succ, List.getElem_cons_zero, List.setIfInBounds_toArray, List.set_cons_zero, List.set_cons_succ])
        refine wpAnyH_take (i := 33) (v := ?_) rfl (by kernel_rfl) (by kernel_rfl) (by kernel_rfl) (fun _ _ _ h => h) (Or.inl ⟨by rfl, ?_⟩) (by assumption) ?_
        rotate_left
        (focus (intro w hSw; (try dsimp only at hSw); go_simp; (try with_reducible rfl)))
        (try simp only [Act.put, List.getElem_toArray, List.getElem_cons_succ, List.getElem_cons_zero, List.setIfInBounds_toArray, List.set_cons_zero, List.set_cons_succ])
        refine wpAnyH_take (i := 34) (v := ?_) rfl (by kernel_rfl) (by kernel_rfl) (by kernel_rfl) (fun _ _ _ h => h) (Or.inl ⟨by rfl, ?_⟩) (by assumption) ?_
        rotate_left
        (focus (intro w hSw; (try dsimp only at hSw); go_simp; (try with_reducible rfl)))
        (try simp only [Act.put, List.getElem_toArray, List.getElem_cons_succ, List.getElem_cons_zero, List.setIfInBounds_toArray, List.set_cons_zero, List.set_cons_succ])
        refine wpAnyH_take (i := 35) (v := ?_) rfl (by kernel_rfl) (by kernel_rfl) (by kernel_rfl) (fun _ _ _ h => h) (Or.inl ⟨by rfl, ?_⟩) (by assumption) ?_
        rotate_left
        (focus (intro w hSw; (try dsimp only at hSw); go_simp; (try with_reducible rfl)))
        (try simp only [Act.put, List.getElem_toArray, List.getElem_cons_succ, List.getElem_cons_zero, List.setIfInBounds_toArray, List.set_cons_zero, List.set_cons_succ])
        refine wpAnyH_take (i := 36) (v := ?_) rfl (by kernel_rfl) (by kernel_rfl) (by kernel_rfl) (fun _ _ _ h => h) (Or.inl ⟨by rfl, ?_⟩) (by assumption) ?_
        rotate_left
        (focus (intro w hSw; (try dsimp only at hSw); go_simp; (try with_reducible rfl)))
        (try simp only [Act.put, List.getElem_toArray, List.getElem_cons_succ, List.getElem_cons_zero, List.setIfInBounds_toArray, List.set_cons_zero, List.set_cons_succ])
        refine wpAnyH_done (by kernel_rfl) ?_ _
        clear hHeld
        go_wp2_with fail
        go_ret
        exact ⟨rfl, (by (repeat' first | (with_reducible exact HB.out) | with_reducible refine setCells_below _ _ _ ?_ (by first | omega | (simp <;> omega)) | with_reducible refine Below.setCell ?_ (by show _ ≤ _; first | omega | (simp <;> omega) | simp) _ | with_reducible refine Below.alloc ?_ (by first | omega | (simp <;> omega)) _ | with_reducible apply Below.drew | with_reducible refine below_drewN ?_ _))⟩
      · skip
        obtain rfl : d = ⟨F, G, 1⟩ := HW2.out rfl
        have hEd : ∀ w, (Op.equalIn 10000 23 (.agg #[.int .i64 F, .int .i64 G, .int .i64 1]) (.agg #[.int .i64 F, .int .i64 G, .int .i64 1])).run Tryd.prog w = .ok true w := fun w => by have := eqFr_run ⟨F, G, 1⟩ ⟨F, G, 1⟩ 9998 w; rw [frB_iff.2 rfl] at this; exact this
        clear HW1 HW2 HW3
        go_wp2_with fail
        refine wp_region_held_drew (S := (fun w' => (w'.cell? ⟨w6.heap.size, 0, none⟩ = some (.int .i64 F) ∧ w'.cell? ⟨w6.heap.size, 1, none⟩ = some (.int .i64 G) ∧ w'.cell? ⟨w6.heap.size, 2, none⟩ = some (.int .i64 1)) ∧ (w'.cell? ⟨w6.heap.size + 1, n * 3, none⟩ = some (.int .i64 F) ∧ w'.cell? ⟨w6.heap.size + 1, n * 3 + 1, none⟩ = some (.int .i64 G) ∧ w'.cell? ⟨w6.heap.size + 1, n * 3 + 2, none⟩ = some (.int .i64 1)))) (by kernel_rfl) (show _ from ⟨(cellsF (show World.rangeAt (World.drew (w9.alloc (.cells #[.int .i64 y.a.re, .int .i64 y.a.im, .int .i64 y.a.den, .int .i64 y.b.re, .int .i64 y.b.im, .int .i64 y.b.den, .int .i64 y.c.re, .int .i64 y.c.im, .int .i64 y.c.den, .int .i64 y.d.re, .int .i64 y.d.im, .int .i64 y.d.den] 41))) (w6.heap.size) 0 [.int .i64 F, .int .i64 G, .int .i64 1] from (World.rangeAt_alloc Hbd.out _))), (HPW.out _ _ (show World.rangeAt (World.drew (w9.alloc (.cells #[.int .i64 y.a.re, .int .i64 y.a.im, .int .i64 y.a.den, .int .i64 y.b.re, .int .i64 y.b.im, .int .i64 y.b.den, .int .i64 y.c.re, .int .i64 y.c.im, .int .i64 y.c.den, .int .i64 y.d.re, .int .i64 y.d.im, .int .i64 y.d.den] 41))) (w6.heap.size + 1) 0 [.int .i64 1, .int .i64 0, .int .i64 1, .int .i64 0, .int .i64 1, .int .i64 1, .int .i64 (-1), .int .i64 0, .int .i64 1, .int .i64 0, .int .i64 (-1), .int .i64 1] from (World.rangeAt_alloc Hpw.out _)))⟩) (fun hHeld => ?_)
        refine wpAnyH_take (i := 0) (v := ?_) rfl (by kernel_rfl) (by kernel_rfl) (by kernel_rfl) (fun _ _ _ h => h) (Or.inl ⟨by rfl, ?_⟩) (by assumption) ?_
        rotate_left
        (focus (intro w hSw; (try dsimp only at hSw); go_simp; (try with_reducible rfl)))
        (try simp only [Act.put, List.getElem_toArray, List.getElem_cons_zero, List.setIfInBounds_toArray, List.set_cons_zero, List.set_cons_succ])
        refine wpAnyH_take (i := 1) (v := ?_) rfl (by kernel_rfl) (by kernel_rfl) (by kernel_rfl) (fun _ _ _ h => h) (Or.inl ⟨by rfl, ?_⟩) (by assumption) ?_
        rotate_left
        (focus (intro w hSw; (try dsimp only at hSw); go_simp; (try with_reducible rfl)))
        (try simp only [Act.put, List.getElem_toArray, List.getElem_cons_succ, List.getElem_cons_zero, List.setIfInBounds_toArray, List.set_cons_zero, List.set_cons_succ])
        refine wpAnyH_take (i := 2) (v := ?_) rfl (by kernel_rfl) (by kernel_rfl) (by kernel_rfl) (fun _ _ _ h => h) (Or.inl ⟨by rfl, ?_⟩) (by assumption) ?_
        rotate_left
        (focus (intro w hSw; (try dsimp only at hSw); go_simp; (try with_reducible rfl)))
        (try simp only [Act.put, List.getElem_toArray, List.getElem_cons_succ, List.getElem_cons_zero, List.setIfInBounds_toArray, List.set_cons_zero, List.set_cons_succ])
        refine wpAnyH_take (i := 3) (v := ?_) rfl (by kernel_rfl) (by kernel_rfl) (by kernel_rfl) (fun _ _ _ h => h) (Or.inl ⟨by rfl, ?_⟩) (by assumption) ?_
        rotate_left
        (focus (intro w hSw; (try dsimp only at hSw); go_simp; (try with_reducible rfl)))
        (try simp only [Act.put, List.getElem_toArray, List.getElem_cons_succ, List.getElem_cons_zero, List.setIfInBounds_toArray, List.set_cons_zero, List.set_cons_succ])
        refine wpAnyH_take (i := 4) (v := ?_) rfl (by kernel_rfl) (by kernel_rfl) (by kernel_rfl) (fun _ _ _ h => h) (Or.inl ⟨by rfl, ?_⟩) (by assumption) ?_
        rotate_left
        (focus (intro w hSw; (try dsimp only at hSw); go_simp; (try with_reducible rfl)))
        (try simp only [Act.put, List.getElem_toArray, List.getElem_cons_succ, List.getElem_cons_zero, List.setIfInBounds_toArray, List.set_cons_zero, List.set_cons_succ])
        refine wpAnyH_take (i := 5) rfl (by kernel_rfl) (by kernel_rfl) (by kernel_rfl) (fun _ _ _ h => h) (Or.inr ⟨by rfl, rfl⟩) (by assumption) ?_
        (try simp only [Act.put, List.getElem_toArray, List.getElem_cons_succ, List.getElem_cons_zero, List.setIfInBounds_toArray, List.set_cons_zero, List.set_cons_succ])
        refine wpAnyH_take (i := 6) rfl (by kernel_rfl) (by kernel_rfl) (by kernel_rfl) (fun _ _ _ h => h) (Or.inr ⟨by rfl, rfl⟩) (by assumption) ?_
        (try simp only [Act.put, List.getElem_toArray, List.getElem_cons_succ, List.getElem_cons_zero, List.setIfInBounds_toArray, List.set_cons_zero, List.set_cons_succ])
        refine wpAnyH_take (i := 7) (v := ?_) rfl (by kernel_rfl) (by kernel_rfl) (by kernel_rfl) (fun _ _ _ h => h) (Or.inl ⟨by rfl, ?_⟩) (by assumption) ?_
        rotate_left
        (focus (intro w hSw; (try dsimp only at hSw); go_simp; (try with_reducible rfl)))
        (try simp only [Act.put, List.getElem_toArray, List.getElem_cons_succ, List.getElem_cons_zero, List.setIfInBounds_toArray, List.set_cons_zero, List.set_cons_succ])
        refine wpAnyH_take (i := 8) (v := ?_) rfl (by kernel_rfl) (by kernel_rfl) (by kernel_rfl) (fun _ _ _ h => h) (Or.inl ⟨by rfl, ?_⟩) (by assumption) ?_
        rotate_left
        (focus (intro w hSw; (try dsimp only at hSw); go_simp; (try with_reducible rfl)))
        (try simp only [Act.put, List.getElem_toArray, List.getElem_cons_succ, List.getElem_cons_zero, List.setIfInBounds_toArray, List.set_cons_zero, List.set_cons_succ])
        refine wpAnyH_take (i := 9) (v := ?_) rfl (by kernel_rfl) (by kernel_rfl) (by kernel_rfl) (fun _ _ _ h => h) (Or.inl ⟨by rfl, ?_⟩) (by assumption) ?_
        rotate_left
        (focus (intro w hSw; (try dsimp only at hSw); go_simp; (try with_reducible rfl)))
        (try simp only [Act.put, List.getElem_toArray, List.getElem_cons_succ, List.getElem_cons_zero, List.setIfInBounds_toArray, List.set_cons_zero, List.set_cons_succ])
        refine wpAnyH_take (i := 10) (v := ?_) rfl (by kernel_rfl) (by kernel_rfl) (by kernel_rfl) (fun _ _ _ h => h) (Or.inl ⟨by rfl, ?_⟩) (by assumption) ?_
        rotate_left
        (focus (intro w hSw; (try dsimp only at hSw); go_simp; (try with_reducible rfl)))
        (try simp only [Act.put, List.getElem_toArray, List.getElem_cons_succ, List.getElem_cons_zero, List.setIfInBounds_toArray, List.set_cons_zero, List.set_cons_succ])
        refine wpAnyH_take (i := 11) (v := ?_) rfl (by kernel_rfl) (by kernel_rfl) (by kernel_rfl) (fun _ _ _ h => h) (Or.inl ⟨by rfl, ?_⟩) (by assumption) ?_
        rotate_left
        (focus (intro w hSw; (try dsimp only at hSw); go_simp; (try with_reducible rfl)))
        (try simp only [Act.put, List.getElem_toArray, List.getElem_cons_succ, List.getElem_cons_zero, List.setIfInBounds_toArray, List.set_cons_zero, List.set_cons_succ])
        refine wpAnyH_take (i := 12) (v := ?_) rfl (by kernel_rfl) (by kernel_rfl) (by kernel_rfl) (fun _ _ _ h => h) (Or.inl ⟨by rfl, ?_⟩) (by assumption) ?_
        rotate_left
        (focus (intro w hSw; (try dsimp only at hSw); go_simp; (try with_reducible rfl)))
        (try simp only [Act.put, List.getElem_toArray, List.getElem_cons_succ, List.getElem_cons_zero, List.setIfInBounds_toArray, List.set_cons_zero, List.set_cons_succ])
        refine wpAnyH_take (i := 13) (v := ?_) rfl (by kernel_rfl) (by kernel_rfl) (by kernel_rfl) (fun _ _ _ h => h) (Or.inl ⟨by rfl, ?_⟩) (by assumption) ?_
        rotate_left
        (focus (intro w hSw; (try dsimp only at hSw); go_simp; (try with_reducible rfl)))
        (try simp only [Act.put, List.getElem_toArray, List.getElem_cons_succ, List.getElem_cons_zero, List.setIfInBounds_toArray, List.set_cons_zero, List.set_cons_succ])
        refine wpAnyH_take (i := 14) (v := ?_) rfl (by kernel_rfl) (by kernel_rfl) (by kernel_rfl) (fun _ _ _ h => h) (Or.inl ⟨by rfl, ?_⟩) (by assumption) ?_
        rotate_left
        (focus (intro w hSw; (try dsimp only at hSw); go_simp; (try with_reducible rfl)))
        (try simp only [Act.put, List.getElem_toArray, List.getElem_cons_succ, List.getElem_cons_zero, List.setIfInBounds_toArray, List.set_cons_zero, List.set_cons_succ])
        refine wpAnyH_take (i := 15) (v := ?_) rfl (by kernel_rfl) (by kernel_rfl) (by kernel_rfl) (fun _ _ _ h => h) (Or.inl ⟨by rfl, ?_⟩) (by assumption) ?_
        rotate_left
        (focus (intro w hSw; (try dsimp only at hSw); go_simp; (try with_reducible rfl)))
        (try simp only [Act.put, List.getElem_toArray, List.getElem_cons_succ, List.getElem_cons_zero, List.setIfInBounds_toArray, List.set_cons_zero, List.set_cons_succ])
        refine wpAnyH_take (i := 16) (v := ?_) rfl (by kernel_rfl) (by kernel_rfl) (by kernel_rfl) (fun _ _ _ h => h) (Or.inl ⟨by rfl, ?_⟩) (by assumption) ?_
        rotate_left
        (focus (intro w hSw; (try dsimp only at hSw); go_simp; (try with_reducible rfl)))
        (try simp only [Act.put, List.getElem_toArray, List.getElem_cons_succ, List.getElem_cons_zero, List.setIfInBounds_toArray, List.set_cons_zero, List.set_cons_succ])
        refine wpAnyH_take (i := 17) (v := ?_) rfl (by kernel_rfl) (by kernel_rfl) (by kernel_rfl) (fun _ _ _ h => h) (Or.inl ⟨by rfl, ?_⟩) (by assumption) ?_
        rotate_left
        (focus (intro w hSw; (try dsimp only at hSw); go_simp; (try with_reducible rfl)))
        (try simp only [Act.put, List.getElem_toArray, List.getElem_cons_succ, List.getElem_cons_zero, List.setIfInBounds_toArray, List.set_cons_zero, List.set_cons_succ])
        refine wpAnyH_take (i := 18) (v := ?_) rfl (by kernel_rfl) (by kernel_rfl) (by kernel_rfl) (fun _ _ _ h => h) (Or.inl ⟨by rfl, ?_⟩) (by assumption) ?_
        rotate_left
        (focus (intro w hSw; (try dsimp only at hSw); go_simp; (try with_reducible rfl)))
        (try simp only [Act.put, List.getElem_toArray, List.getElem_cons_succ, List.getElem_cons_zero, List.setIfInBounds_toArray, List.set_cons_zero, List.set_cons_succ])
        refine wpAnyH_take (i := 19) (v := ?_) rfl (by kernel_rfl) (by kernel_rfl) (by kernel_rfl) (fun _ _ _ h => h) (Or.inl ⟨by rfl, ?_⟩) (by assumption) ?_
        rotate_left
        (focus (intro w hSw; (try dsimp only at hSw); go_simp; (try with_reducible rfl)))
        (try simp only [Act.put, List.getElem_toArray, List.getElem_cons_succ, List.getElem_cons_zero, List.setIfInBounds_toArray, List.set_cons_zero, List.set_cons_succ])
        refine wpAnyH_take (i := 20) (v := ?_) rfl (by kernel_rfl) (by kernel_rfl) (by kernel_rfl) (fun _ _ _ h => h) (Or.inl ⟨by rfl, ?_⟩) (by assumption) ?_
        rotate_left
        (focus (intro w hSw; (try dsimp only at hSw); go_simp; (try with_reducible rfl)))
        (try simp only [Act.put, List.getElem_toArray, List.getElem_cons_succ, List.getElem_cons_zero, List.setIfInBounds_toArray, List.set_cons_zero, List.set_cons_succ])
        refine wpAnyH_take (i := 21) (v := ?_) rfl (by kernel_rfl) (by kernel_rfl) (by kernel_rfl) (fun _ _ _ h => h) (Or.inl ⟨by rfl, ?_⟩) (by assumption) ?_
        rotate_left
        (focus (intro w hSw; (try dsimp only at hSw); go_simp; (try with_reducible rfl)))
        (try simp only [Act.put, List.getElem_toArray, List.getElem_cons_succ, List.getElem_cons_zero, List.setIfInBounds_toArray, List.set_cons_zero, List.set_cons_succ])
        refine wpAnyH_take (i := 22) (v := ?_) rfl (by kernel_rfl) (by kernel_rfl) (by kernel_rfl) (fun _ _ _ h => h) (Or.inl ⟨by rfl, ?_⟩) (by assumption) ?_
        rotate_left
        (focus (intro w hSw; (try dsimp only at hSw); go_simp; (try with_reducible rfl)))
        (try simp only [Act.put, List.getElem_toArray, List.getElem_cons_succ, List.getElem_cons_zero, List.setIfInBounds_toArray, List.set_cons_zero, List.set_cons_succ])
        refine wpAnyH_take (i := 23) (v := ?_) rfl (by kernel_rfl) (by kernel_rfl) (by kernel_rfl) (fun _ _ _ h => h) (Or.inl ⟨by rfl, ?_⟩) (by assumption) ?_
        rotate_left
        (focus (intro w hSw; (try dsimp only at hSw); go_simp; (try with_reducible rfl)))
        (try simp only [Act.put, List.getElem_toArray, List.getElem_cons_succ, List.getElem_cons_zero, List.setIfInBounds_toArray, List.set_cons_zero, List.set_cons_succ])
        refine wpAnyH_take (i := 24) (v := ?_) rfl (by kernel_rfl) (by kernel_rfl) (by kernel_rfl) (fun _ _ _ h => h) (Or.inl ⟨by rfl, ?_⟩) (by assumption) ?_
        rotate_left
        (focus (intro w hSw; (try dsimp only at hSw); go_simp; (try with_reducible rfl)))
        (try simp only [Act.put, List.getElem_toArray, List.getElem_cons_succ, List.getElem_cons_zero, List.setIfInBounds_toArray, List.set_cons_zero, List.set_cons_succ])
        refine wpAnyH_take (i := 25) (v := ?_) rfl (by kernel_rfl) (by kernel_rfl) (by kernel_rfl) (fun _ _ _ h => h) (Or.inl ⟨by rfl, ?_⟩) (by assumption) ?_
        rotate_left
        (focus (intro w hSw; (try dsimp only at hSw); go_simp; (try with_reducible rfl)))
        (try simp only [Act.put, List.getElem_toArray, List.getElem_cons_succ, List.getElem_cons_zero, List.setIfInBounds_toArray, List.set_cons_zero, List.set_cons_succ])
        refine wpAnyH_take (i := 26) (v := ?_) rfl (by kernel_rfl) (by kernel_rfl) (by kernel_rfl) (fun _ _ _ h => h) (Or.inl ⟨by rfl, ?_⟩) (by assumption) ?_
        rotate_left
        (focus (intro w hSw; (try dsimp only at hSw); go_simp; (try with_reducible rfl)))
        (try simp only [Act.put, List.getElem_toArray, List.getElem_cons_succ, List.getElem_cons_zero, List.setIfInBounds_toArray, List.set_cons_zero, List.set_cons_succ])
        refine wpAnyH_take (i := 27) (v := ?_) rfl (by kernel_rfl) (by kernel_rfl) (by kernel_rfl) (fun _ _ _ h => h) (Or.inl ⟨by rfl, ?_⟩) (by assumption) ?_
        rotate_left
        (focus (intro w hSw; (try dsimp only at hSw); go_simp; (try with_reducible rfl)))
        (try simp only [Act.put, List.getElem_toArray, List.getElem_cons_succ, List.getElem_cons_zero, List.setIfInBounds_toArray, List.set_cons_zero, List.set_cons_succ])
        refine wpAnyH_take (i := 28) (v := ?_) rfl (by kernel_rfl) (by kernel_rfl) (by kernel_rfl) (fun _ _ _ h => h) (Or.inl ⟨by rfl, ?_⟩) (by assumption) ?_
        rotate_left
        (focus (intro w hSw; (try dsimp only at hSw); go_simp; (try with_reducible rfl)))
        (try simp only [Act.put, List.getElem_toArray, List.getElem_cons_succ, List.getElem_cons_zero, List.setIfInBounds_toArray, List.set_cons_zero, List.set_cons_succ])
        refine wpAnyH_take (i := 29) (v := ?_) rfl (by kernel_rfl) (by kernel_rfl) (by kernel_rfl) (fun _ _ _ h => h) (Or.inl ⟨by rfl, ?_⟩) (by assumption) ?_
        rotate_left
        (focus (intro w hSw; (try dsimp only at hSw); go_simp; (try with_reducible rfl)))
        (try simp only [Act.put, List.getElem_toArray, List.getElem_cons_succ, List.getElem_cons_zero, List.setIfInBounds_toArray, List.set_cons_zero, List.set_cons_succ])
        refine wpAnyH_take (i := 30) (v := ?_) rfl (by kernel_rfl) (by kernel_rfl) (by kernel_rfl) (fun _ _ _ h => h) (Or.inl ⟨by rfl, ?_⟩) (by assumption) ?_
        rotate_left
        (focus (intro w hSw; (try dsimp only at hSw); go_simp; (try with_reducible rfl)))
        (try simp only [Act.put, List.getElem_toArray, List.getElem_cons_succ, List.getElem_cons_zero, List.setIfInBounds_toArray, List.set_cons_zero, List.set_cons_succ])
        refine wpAnyH_take (i := 31) rfl (by kernel_rfl) (by kernel_rfl) (by kernel_rfl) (fun _ _ _ h => h) (Or.inr ⟨by rfl, rfl⟩) (by assumption) ?_
        (try simp only [Act.put, List.getElem_toArray, List.getElem_cons_succ, List.getElem_cons_zero, List.setIfInBounds_toArray, List.set_cons_zero, List.set_cons_succ])
        refine wpAnyH_take (i := 32) rfl (by kernel_rfl) (by kernel_rfl) (by kernel_rfl) (fun _ _ _ h => h) (Or.inr ⟨by rfl, rfl⟩) (by assumption) ?_
        (try simp only [Act.put, List.getElem_toArray, List.getElem_cons_succ, List.getElem_cons_zero, List.setIfInBounds_toArray, List.set_cons_zero, List.set_cons_succ])
        refine wpAnyH_take (i := 33) rfl (by kernel_rfl) (by kernel_rfl) (by kernel_rfl) (fun _ _ _ h => h) (Or.inr ⟨by rfl, rfl⟩) (by assumption) ?_
        (try simp only [Act.put, List.getElem_toArray, List.getElem_cons_succ, List.getElem_cons_zero, List.setIfInBounds_toArray, List.set_cons_zero, List.set_cons_succ])
        refine wpAnyH_take (i := 34) (v := ?_) rfl (by kernel_rfl) (by kernel_rfl) (by kernel_rfl) (fun _ _ _ h => h) (Or.inl ⟨by rfl, ?_⟩) (by assumption) ?_
        rotate_left
        (focus (intro w hSw; (try dsimp only at hSw); go_simp; (try with_reducible rfl)))
        (try simp only [Act.put, List.getElem_toArray, List.getElem_cons_succ, List.getElem_cons_zero, List.setIfInBounds_toArray, List.set_cons_zero, List.set_cons_succ])
        refine wpAnyH_take (i := 35) (v := ?_) rfl (by kernel_rfl) (by kernel_rfl) (by kernel_rfl) (fun _ _ _ h => h) (Or.inl ⟨by rfl, ?_⟩) (by assumption) ?_
        rotate_left
        (focus (intro w hSw; (try dsimp only at hSw); go_simp; (try with_reducible rfl)))
        (try simp only [Act.put, List.getElem_toArray, List.getElem_cons_succ, List.getElem_cons_zero, List.setIfInBounds_toArray, List.set_cons_zero, List.set_cons_succ])
        refine wpAnyH_take (i := 36) (v := ?_) rfl (by kernel_rfl) (by kernel_rfl) (by kernel_rfl) (fun _ _ _ h => h) (Or.inl ⟨by rfl, ?_⟩) (by assumption) ?_
        rotate_left
        (focus (intro w hSw; (try dsimp only at hSw); go_simp; (try with_reducible rfl)))
        (try simp only [Act.put, List.getElem_toArray, List.getElem_cons_succ, List.getElem_cons_zero, List.setIfInBounds_toArray, List.set_cons_zero, List.set_cons_succ])
        refine wpAnyH_done (by kernel_rfl) ?_ _
        clear hHeld
        go_wp2_with fail
        go_ret
        exact ⟨rfl, (by (repeat' first | (with_reducible exact HB.out) | with_reducible refine setCells_below _ _ _ ?_ (by first | omega | (simp <;> omega)) | with_reducible refine Below.setCell ?_ (by show _ ≤ _; first | omega | (simp <;> omega) | simp) _ | with_reducible refine Below.alloc ?_ (by first | omega | (simp <;> omega)) _ | with_reducible apply Below.drew | with_reducible refine below_drewN ?_ _))⟩
      · skip
        obtain rfl : d = ⟨F, G, 1⟩ := HW2.out rfl
        have hEd : ∀ w, (Op.equalIn 10000 23 (.agg #[.int .i64 F, .int .i64 G, .int .i64 1]) (.agg #[.int .i64 F, .int .i64 G, .int .i64 1])).run Tryd.prog w = .ok true w := fun w => by have := eqFr_run ⟨F, G, 1⟩ ⟨F, G, 1⟩ 9998 w; rw [frB_iff.2 rfl] at this; exact this
        obtain rfl : X = y := HW3.out rfl
        have hEq2 : ∀ w, (Op.equalIn 10000 41 (.agg #[.int .i64 X.a.re, .int .i64 X.a.im, .int .i64 X.a.den, .int .i64 X.b.re, .int .i64 X.b.im, .int .i64 X.b.den, .int .i64 X.c.re, .int .i64 X.c.im, .int .i64 X.c.den, .int .i64 X.d.re, .int .i64 X.d.im, .int .i64 X.d.den]) (.agg #[.int .i64 X.a.re, .int .i64 X.a.im, .int .i64 X.a.den, .int .i64 X.b.re, .int .i64 X.b.im, .int .i64 X.b.den, .int .i64 X.c.re, .int .i64 X.c.im, .int .i64 X.c.den, .int .i64 X.d.re, .int .i64 X.d.im, .int .i64 X.d.den])).run Tryd.prog w = .ok true w := eqMat_run X
        clear HW1 HW2 HW3
        go_wp2_with fail
        refine wp_region_held_drew (S := (fun w' => (w'.cell? ⟨w6.heap.size, 0, none⟩ = some (.int .i64 F) ∧ w'.cell? ⟨w6.heap.size, 1, none⟩ = some (.int .i64 G) ∧ w'.cell? ⟨w6.heap.size, 2, none⟩ = some (.int .i64 1)) ∧ (w'.cell? ⟨w6.heap.size + 1, n * 3, none⟩ = some (.int .i64 F) ∧ w'.cell? ⟨w6.heap.size + 1, n * 3 + 1, none⟩ = some (.int .i64 G) ∧ w'.cell? ⟨w6.heap.size + 1, n * 3 + 2, none⟩ = some (.int .i64 1)) ∧ (w'.cell? ⟨w8.heap.size, 0, none⟩ = some (.int .i64 X.a.re) ∧ w'.cell? ⟨w8.heap.size, 1, none⟩ = some (.int .i64 X.a.im) ∧ w'.cell? ⟨w8.heap.size, 2, none⟩ = some (.int .i64 X.a.den) ∧ w'.cell? ⟨w8.heap.size, 3, none⟩ = some (.int .i64 X.b.re) ∧ w'.cell? ⟨w8.heap.size, 4, none⟩ = some (.int .i64 X.b.im) ∧ w'.cell? ⟨w8.heap.size, 5, none⟩ = some (.int .i64 X.b.den) ∧ w'.cell? ⟨w8.heap.size, 6, none⟩ = some (.int .i64 X.c.re) ∧ w'.cell? ⟨w8.heap.size, 7, none⟩ = some (.int .i64 X.c.im) ∧ w'.cell? ⟨w8.heap.size, 8, none⟩ = some (.int .i64 X.c.den) ∧ w'.cell? ⟨w8.heap.size, 9, none⟩ = some (.int .i64 X.d.re) ∧ w'.cell? ⟨w8.heap.size, 10, none⟩ = some (.int .i64 X.d.im) ∧ w'.cell? ⟨w8.heap.size, 11, none⟩ = some (.int .i64 X.d.den)) ∧ (w'.cell? ⟨w9.heap.size, 0, none⟩ = some (.int .i64 X.a.re) ∧ w'.cell? ⟨w9.heap.size, 1, none⟩ = some (.int .i64 X.a.im) ∧ w'.cell? ⟨w9.heap.size, 2, none⟩ = some (.int .i64 X.a.den) ∧ w'.cell? ⟨w9.heap.size, 3, none⟩ = some (.int .i64 X.b.re) ∧ w'.cell? ⟨w9.heap.size, 4, none⟩ = some (.int .i64 X.b.im) ∧ w'.cell? ⟨w9.heap.size, 5, none⟩ = some (.int .i64 X.b.den) ∧ w'.cell? ⟨w9.heap.size, 6, none⟩ = some (.int .i64 X.c.re) ∧ w'.cell? ⟨w9.heap.size, 7, none⟩ = some (.int .i64 X.c.im) ∧ w'.cell? ⟨w9.heap.size, 8, none⟩ = some (.int .i64 X.c.den) ∧ w'.cell? ⟨w9.heap.size, 9, none⟩ = some (.int .i64 X.d.re) ∧ w'.cell? ⟨w9.heap.size, 10, none⟩ = some (.int .i64 X.d.im) ∧ w'.cell? ⟨w9.heap.size, 11, none⟩ = some (.int .i64 X.d.den)))) (by kernel_rfl) (show _ from ⟨(cellsF (show World.rangeAt (World.drew (w9.alloc (.cells #[.int .i64 X.a.re, .int .i64 X.a.im, .int .i64 X.a.den, .int .i64 X.b.re, .int .i64 X.b.im, .int .i64 X.b.den, .int .i64 X.c.re, .int .i64 X.c.im, .int .i64 X.c.den, .int .i64 X.d.re, .int .i64 X.d.im, .int .i64 X.d.den] 41))) (w6.heap.size) 0 [.int .i64 F, .int .i64 G, .int .i64 1] from (World.rangeAt_alloc Hbd.out _))), (HPW.out _ _ (show World.rangeAt (World.drew (w9.alloc (.cells #[.int .i64 X.a.re, .int .i64 X.a.im, .int .i64 X.a.den, .int .i64 X.b.re, .int .i64 X.b.im, .int .i64 X.b.den, .int .i64 X.c.re, .int .i64 X.c.im, .int .i64 X.c.den, .int .i64 X.d.re, .int .i64 X.d.im, .int .i64 X.d.den] 41))) (w6.heap.size + 1) 0 [.int .i64 1, .int .i64 0, .int .i64 1, .int .i64 0, .int .i64 1, .int .i64 1, .int .i64 (-1), .int .i64 0, .int .i64 1, .int .i64 0, .int .i64 (-1), .int .i64 1] from (World.rangeAt_alloc Hpw.out _))), (cellsM (show World.rangeAt (World.drew (w9.alloc (.cells #[.int .i64 X.a.re, .int .i64 X.a.im, .int .i64 X.a.den, .int .i64 X.b.re, .int .i64 X.b.im, .int .i64 X.b.den, .int .i64 X.c.re, .int .i64 X.c.im, .int .i64 X.c.den, .int .i64 X.d.re, .int .i64 X.d.im, .int .i64 X.d.den] 41))) (w8.heap.size) 0 [.int .i64 X.a.re, .int .i64 X.a.im, .int .i64 X.a.den, .int .i64 X.b.re, .int .i64 X.b.im, .int .i64 X.b.den, .int .i64 X.c.re, .int .i64 X.c.im, .int .i64 X.c.den, .int .i64 X.d.re, .int .i64 X.d.im, .int .i64 X.d.den] from (World.rangeAt_alloc Hbx.out _))), (cellsM (show World.rangeAt (World.drew (w9.alloc (.cells #[.int .i64 X.a.re, .int .i64 X.a.im, .int .i64 X.a.den, .int .i64 X.b.re, .int .i64 X.b.im, .int .i64 X.b.den, .int .i64 X.c.re, .int .i64 X.c.im, .int .i64 X.c.den, .int .i64 X.d.re, .int .i64 X.d.im, .int .i64 X.d.den] 41))) (w9.heap.size) 0 [.int .i64 X.a.re, .int .i64 X.a.im, .int .i64 X.a.den, .int .i64 X.b.re, .int .i64 X.b.im, .int .i64 X.b.den, .int .i64 X.c.re, .int .i64 X.c.im, .int .i64 X.c.den, .int .i64 X.d.re, .int .i64 X.d.im, .int .i64 X.d.den] from (rangeAt_new _ _ _)))⟩) (fun hHeld => ?_)
        refine wpAnyH_take (i := 0) (v := ?_) rfl (by kernel_rfl) (by kernel_rfl) (by kernel_rfl) (fun _ _ _ h => h) (Or.inl ⟨by rfl, ?_⟩) (by assumption) ?_
        rotate_left
        (focus (intro w hSw; (try dsimp only at hSw); go_simp; (try with_reducible rfl)))
        (try simp only [Act.put, List.getElem_toArray, List.getElem_cons_zero, List.setIfInBounds_toArray, List.set_cons_zero, List.set_cons_succ])
        refine wpAnyH_take (i := 1) (v := ?_) rfl (by kernel_rfl) (by kernel_rfl) (by kernel_rfl) (fun _ _ _ h => h) (Or.inl ⟨by rfl, ?_⟩) (by assumption) ?_
        rotate_left
        (focus (intro w hSw; (try dsimp only at hSw); go_simp; (try with_reducible rfl)))
        (try simp only [Act.put, List.getElem_toArray, List.getElem_cons_succ, List.getElem_cons_zero, List.setIfInBounds_toArray, List.set_cons_zero, List.set_cons_succ])
        refine wpAnyH_take (i := 2) (v := ?_) rfl (by kernel_rfl) (by kernel_rfl) (by kernel_rfl) (fun _ _ _ h => h) (Or.inl ⟨by rfl, ?_⟩) (by assumption) ?_
        rotate_left
        (focus (intro w hSw; (try dsimp only at hSw); go_simp; (try with_reducible rfl)))
        (try simp only [Act.put, List.getElem_toArray, List.getElem_cons_succ, List.getElem_cons_zero, List.setIfInBounds_toArray, List.set_cons_zero, List.set_cons_succ])
        refine wpAnyH_take (i := 3) (v := ?_) rfl (by kernel_rfl) (by kernel_rfl) (by kernel_rfl) (fun _ _ _ h => h) (Or.inl ⟨by rfl, ?_⟩) (by assumption) ?_
        rotate_left
        (focus (intro w hSw; (try dsimp only at hSw); go_simp; (try with_reducible rfl)))
        (try simp only [Act.put, List.getElem_toArray, List.getElem_cons_succ, List.getElem_cons_zero, List.setIfInBounds_toArray, List.set_cons_zero, List.set_cons_succ])
        refine wpAnyH_take (i := 4) (v := ?_) rfl (by kernel_rfl) (by kernel_rfl) (by kernel_rfl) (fun _ _ _ h => h) (Or.inl ⟨by rfl, ?_⟩) (by assumption) ?_
        rotate_left
        (focus (intro w hSw; (try dsimp only at hSw); go_simp; (try with_reducible rfl)))
        (try simp only [Act.put, List.getElem_toArray, List.getElem_cons_succ, List.getElem_cons_zero, List.setIfInBounds_toArray, List.set_cons_zero, List.set_cons_succ])
        refine wpAnyH_take (i := 5) rfl (by kernel_rfl) (by kernel_rfl) (by kernel_rfl) (fun _ _ _ h => h) (Or.inr ⟨by rfl, rfl⟩) (by assumption) ?_
        (try simp only [Act.put, List.getElem_toArray, List.getElem_cons_succ, List.getElem_cons_zero, List.setIfInBounds_toArray, List.set_cons_zero, List.set_cons_succ])
        refine wpAnyH_take (i := 6) rfl (by kernel_rfl) (by kernel_rfl) (by kernel_rfl) (fun _ _ _ h => h) (Or.inr ⟨by rfl, rfl⟩) (by assumption) ?_
        (try simp only [Act.put, List.getElem_toArray, List.getElem_cons_succ, List.getElem_cons_zero, List.setIfInBounds_toArray, List.set_cons_zero, List.set_cons_succ])
        refine wpAnyH_take (i := 7) (v := ?_) rfl (by kernel_rfl) (by kernel_rfl) (by kernel_rfl) (fun _ _ _ h => h) (Or.inl ⟨by rfl, ?_⟩) (by assumption) ?_
        rotate_left
        (focus (intro w hSw; (try dsimp only at hSw); go_simp; (try with_reducible rfl)))
        (try simp only [Act.put, List.getElem_toArray, List.getElem_cons_succ, List.getElem_cons_zero, List.setIfInBounds_toArray, List.set_cons_zero, List.set_cons_succ])
        refine wpAnyH_take (i := 8) (v := ?_) rfl (by kernel_rfl) (by kernel_rfl) (by kernel_rfl) (fun _ _ _ h => h) (Or.inl ⟨by rfl, ?_⟩) (by assumption) ?_
        rotate_left
        (focus (intro w hSw; (try dsimp only at hSw); go_simp; (try with_reducible rfl)))
        (try simp only [Act.put, List.getElem_toArray, List.getElem_cons_succ, List.getElem_cons_zero, List.setIfInBounds_toArray, List.set_cons_zero, List.set_cons_succ])
        refine wpAnyH_take (i := 9) (v := ?_) rfl (by kernel_rfl) (by kernel_rfl) (by kernel_rfl) (fun _ _ _ h => h) (Or.inl ⟨by rfl, ?_⟩) (by assumption) ?_
        rotate_left
        (focus (intro w hSw; (try dsimp only at hSw); go_simp; (try with_reducible rfl)))
        (try simp only [Act.put, List.getElem_toArray, List.getElem_cons_succ, List.getElem_cons_zero, List.setIfInBounds_toArray, List.set_cons_zero, List.set_cons_succ])
        refine wpAnyH_take (i := 10) (v := ?_) rfl (by kernel_rfl) (by kernel_rfl) (by kernel_rfl) (fun _ _ _ h => h) (Or.inl ⟨by rfl, ?_⟩) (by assumption) ?_
        rotate_left
        (focus (intro w hSw; (try dsimp only at hSw); go_simp; (try with_reducible rfl)))
        (try simp only [Act.put, List.getElem_toArray, List.getElem_cons_succ, List.getElem_cons_zero, List.setIfInBounds_toArray, List.set_cons_zero, List.set_cons_succ])
        refine wpAnyH_take (i := 11) (v := ?_) rfl (by kernel_rfl) (by kernel_rfl) (by kernel_rfl) (fun _ _ _ h => h) (Or.inl ⟨by rfl, ?_⟩) (by assumption) ?_
        rotate_left
        (focus (intro w hSw; (try dsimp only at hSw); go_simp; (try with_reducible rfl)))
        (try simp only [Act.put, List.getElem_toArray, List.getElem_cons_succ, List.getElem_cons_zero, List.setIfInBounds_toArray, List.set_cons_zero, List.set_cons_succ])
        refine wpAnyH_take (i := 12) (v := ?_) rfl (by kernel_rfl) (by kernel_rfl) (by kernel_rfl) (fun _ _ _ h => h) (Or.inl ⟨by rfl, ?_⟩) (by assumption) ?_
        rotate_left
        (focus (intro w hSw; (try dsimp only at hSw); go_simp; (try with_reducible rfl)))
        (try simp only [Act.put, List.getElem_toArray, List.getElem_cons_succ, List.getElem_cons_zero, List.setIfInBounds_toArray, List.set_cons_zero, List.set_cons_succ])
        refine wpAnyH_take (i := 13) (v := ?_) rfl (by kernel_rfl) (by kernel_rfl) (by kernel_rfl) (fun _ _ _ h => h) (Or.inl ⟨by rfl, ?_⟩) (by assumption) ?_
        rotate_left
        (focus (intro w hSw; (try dsimp only at hSw); go_simp; (try with_reducible rfl)))
        (try simp only [Act.put, List.getElem_toArray, List.getElem_cons_succ, List.getElem_cons_zero, List.setIfInBounds_toArray, List.set_cons_zero, List.set_cons_succ])
        refine wpAnyH_take (i := 14) (v := ?_) rfl (by kernel_rfl) (by kernel_rfl) (by kernel_rfl) (fun _ _ _ h => h) (Or.inl ⟨by rfl, ?_⟩) (by assumption) ?_
        rotate_left
        (focus (intro w hSw; (try dsimp only at hSw); go_simp; (try with_reducible rfl)))
        (try simp only [Act.put, List.getElem_toArray, List.getElem_cons_succ, List.getElem_cons_zero, List.setIfInBounds_toArray, List.set_cons_zero, List.set_cons_succ])
        refine wpAnyH_take (i := 15) (v := ?_) rfl (by kernel_rfl) (by kernel_rfl) (by kernel_rfl) (fun _ _ _ h => h) (Or.inl ⟨by rfl, ?_⟩) (by assumption) ?_
        rotate_left
        (focus (intro w hSw; (try dsimp only at hSw); go_simp; (try with_reducible rfl)))
        (try simp only [Act.put, List.getElem_toArray, List.getElem_cons_succ, List.getElem_cons_zero, List.setIfInBounds_toArray, List.set_cons_zero, List.set_cons_succ])
        refine wpAnyH_take (i := 16) (v := ?_) rfl (by kernel_rfl) (by kernel_rfl) (by kernel_rfl) (fun _ _ _ h => h) (Or.inl ⟨by rfl, ?_⟩) (by assumption) ?_
        rotate_left
        (focus (intro w hSw; (try dsimp only at hSw); go_simp; (try with_reducible rfl)))
        (try simp only [Act.put, List.getElem_toArray, List.getElem_cons_succ, List.getElem_cons_zero, List.setIfInBounds_toArray, List.set_cons_zero, List.set_cons_succ])
        refine wpAnyH_take (i := 17) (v := ?_) rfl (by kernel_rfl) (by kernel_rfl) (by kernel_rfl) (fun _ _ _ h => h) (Or.inl ⟨by rfl, ?_⟩) (by assumption) ?_
        rotate_left
        (focus (intro w hSw; (try dsimp only at hSw); go_simp; (try with_reducible rfl)))
        (try simp only [Act.put, List.getElem_toArray, List.getElem_cons_succ, List.getElem_cons_zero, List.setIfInBounds_toArray, List.set_cons_zero, List.set_cons_succ])
        refine wpAnyH_take (i := 18) (v := ?_) rfl (by kernel_rfl) (by kernel_rfl) (by kernel_rfl) (fun _ _ _ h => h) (Or.inl ⟨by rfl, ?_⟩) (by assumption) ?_
        rotate_left
        (focus (intro w hSw; (try dsimp only at hSw); go_simp; (try with_reducible rfl)))
        (try simp only [Act.put, List.getElem_toArray, List.getElem_cons_succ, List.getElem_cons_zero, List.setIfInBounds_toArray, List.set_cons_zero, List.set_cons_succ])
        refine wpAnyH_take (i := 19) (v := ?_) rfl (by kernel_rfl) (by kernel_rfl) (by kernel_rfl) (fun _ _ _ h => h) (Or.inl ⟨by rfl, ?_⟩) (by assumption) ?_
        rotate_left
        (focus (intro w hSw; (try dsimp only at hSw); go_simp; (try with_reducible rfl)))
        (try simp only [Act.put, List.getElem_toArray, List.getElem_cons_succ, List.getElem_cons_zero, List.setIfInBounds_toArray, List.set_cons_zero, List.set_cons_succ])
        refine wpAnyH_take (i := 20) (v := ?_) rfl (by kernel_rfl) (by kernel_rfl) (by kernel_rfl) (fun _ _ _ h => h) (Or.inl ⟨by rfl, ?_⟩) (by assumption) ?_
        rotate_left
        (focus (intro w hSw; (try dsimp only at hSw); go_simp; (try with_reducible rfl)))
        (try simp only [Act.put, List.getElem_toArray, List.getElem_cons_succ, List.getElem_cons_zero, List.setIfInBounds_toArray, List.set_cons_zero, List.set_cons_succ])
        refine wpAnyH_take (i := 21) (v := ?_) rfl (by kernel_rfl) (by kernel_rfl) (by kernel_rfl) (fun _ _ _ h => h) (Or.inl ⟨by rfl, ?_⟩) (by assumption) ?_
        rotate_left
        (focus (intro w hSw; (try dsimp only at hSw); go_simp; (try with_reducible rfl)))
        (try simp only [Act.put, List.getElem_toArray, List.getElem_cons_succ, List.getElem_cons_zero, List.setIfInBounds_toArray, List.set_cons_zero, List.set_cons_succ])
        refine wpAnyH_take (i := 22) (v := ?_) rfl (by kernel_rfl) (by kernel_rfl) (by kernel_rfl) (fun _ _ _ h => h) (Or.inl ⟨by rfl, ?_⟩) (by assumption) ?_
        rotate_left
        (focus (intro w hSw; (try dsimp only at hSw); go_simp; (try with_reducible rfl)))
        (try simp only [Act.put, List.getElem_toArray, List.getElem_cons_succ, List.getElem_cons_zero, List.setIfInBounds_toArray, List.set_cons_zero, List.set_cons_succ])
        refine wpAnyH_take (i := 23) (v := ?_) rfl (by kernel_rfl) (by kernel_rfl) (by kernel_rfl) (fun _ _ _ h => h) (Or.inl ⟨by rfl, ?_⟩) (by assumption) ?_
        rotate_left
        (focus (intro w hSw; (try dsimp only at hSw); go_simp; (try with_reducible rfl)))
        (try simp only [Act.put, List.getElem_toArray, List.getElem_cons_succ, List.getElem_cons_zero, List.setIfInBounds_toArray, List.set_cons_zero, List.set_cons_succ])
        refine wpAnyH_take (i := 24) (v := ?_) rfl (by kernel_rfl) (by kernel_rfl) (by kernel_rfl) (fun _ _ _ h => h) (Or.inl ⟨by rfl, ?_⟩) (by assumption) ?_
        rotate_left
        (focus (intro w hSw; (try dsimp only at hSw); go_simp; (try with_reducible rfl)))
        (try simp only [Act.put, List.getElem_toArray, List.getElem_cons_succ, List.getElem_cons_zero, List.setIfInBounds_toArray, List.set_cons_zero, List.set_cons_succ])
        refine wpAnyH_take (i := 25) (v := ?_) rfl (by kernel_rfl) (by kernel_rfl) (by kernel_rfl) (fun _ _ _ h => h) (Or.inl ⟨by rfl, ?_⟩) (by assumption) ?_
        rotate_left
        (focus (intro w hSw; (try dsimp only at hSw); go_simp; (try with_reducible rfl)))
        (try simp only [Act.put, List.getElem_toArray, List.getElem_cons_succ, List.getElem_cons_zero, List.setIfInBounds_toArray, List.set_cons_zero, List.set_cons_succ])
        refine wpAnyH_take (i := 26) (v := ?_) rfl (by kernel_rfl) (by kernel_rfl) (by kernel_rfl) (fun _ _ _ h => h) (Or.inl ⟨by rfl, ?_⟩) (by assumption) ?_
        rotate_left
        (focus (intro w hSw; (try dsimp only at hSw); go_simp; (try with_reducible rfl)))
        (try simp only [Act.put, List.getElem_toArray, List.getElem_cons_succ, List.getElem_cons_zero, List.setIfInBounds_toArray, List.set_cons_zero, List.set_cons_succ])
        refine wpAnyH_take (i := 27) (v := ?_) rfl (by kernel_rfl) (by kernel_rfl) (by kernel_rfl) (fun _ _ _ h => h) (Or.inl ⟨by rfl, ?_⟩) (by assumption) ?_
        rotate_left
        (focus (intro w hSw; (try dsimp only at hSw); go_simp; (try with_reducible rfl)))
        (try simp only [Act.put, List.getElem_toArray, List.getElem_cons_succ, List.getElem_cons_zero, List.setIfInBounds_toArray, List.set_cons_zero, List.set_cons_succ])
        refine wpAnyH_take (i := 28) (v := ?_) rfl (by kernel_rfl) (by kernel_rfl) (by kernel_rfl) (fun _ _ _ h => h) (Or.inl ⟨by rfl, ?_⟩) (by assumption) ?_
        rotate_left
        (focus (intro w hSw; (try dsimp only at hSw); go_simp; (try with_reducible rfl)))
        (try simp only [Act.put, List.getElem_toArray, List.getElem_cons_succ, List.getElem_cons_zero, List.setIfInBounds_toArray, List.set_cons_zero, List.set_cons_succ])
        refine wpAnyH_take (i := 29) (v := ?_) rfl (by kernel_rfl) (by kernel_rfl) (by kernel_rfl) (fun _ _ _ h => h) (Or.inl ⟨by rfl, ?_⟩) (by assumption) ?_
        rotate_left
        (focus (intro w hSw; (try dsimp only at hSw); go_simp; (try with_reducible rfl)))
        (try simp only [Act.put, List.getElem_toArray, List.getElem_cons_succ, List.getElem_cons_zero, List.setIfInBounds_toArray, List.set_cons_zero, List.set_cons_succ])
        refine wpAnyH_take (i := 30) (v := ?_) rfl (by kernel_rfl) (by kernel_rfl) (by kernel_rfl) (fun _ _ _ h => h) (Or.inl ⟨by rfl, ?_⟩) (by assumption) ?_
        rotate_left
        (focus (intro w hSw; (try dsimp only at hSw); go_simp; (try with_reducible rfl)))
        (try simp only [Act.put, List.getElem_toArray, List.getElem_cons_succ, List.getElem_cons_zero, List.setIfInBounds_toArray, List.set_cons_zero, List.set_cons_succ])
        refine wpAnyH_take (i := 31) (v := ?_) rfl (by kernel_rfl) (by kernel_rfl) (by kernel_rfl) (fun _ _ _ h => h) (Or.inl ⟨by rfl, ?_⟩) (by assumption) ?_
        rotate_left
        (focus (intro w hSw; (try dsimp only at hSw); go_simp; (try with_reducible rfl)))
        (try simp only [Act.put, List.getElem_toArray, List.getElem_cons_succ, List.getElem_cons_zero, List.setIfInBounds_toArray, List.set_cons_zero, List.set_cons_succ])
        refine wpAnyH_take (i := 32) (v := ?_) rfl (by kernel_rfl) (by kernel_rfl) (by kernel_rfl) (fun _ _ _ h => h) (Or.inl ⟨by rfl, ?_⟩) (by assumption) ?_
        rotate_left
        (focus (intro w hSw; (try dsimp only at hSw); go_simp; (try with_reducible rfl)))
        (try simp only [Act.put, List.getElem_toArray, List.getElem_cons_succ, List.getElem_cons_zero, List.setIfInBounds_toArray, List.set_cons_zero, List.set_cons_succ])
        refine wpAnyH_take (i := 33) (v := ?_) rfl (by kernel_rfl) (by kernel_rfl) (by kernel_rfl) (fun _ _ _ h => h) (Or.inl ⟨by rfl, ?_⟩) (by assumption) ?_
        rotate_left
        (focus (intro w hSw; (try dsimp only at hSw); go_simp; (try with_reducible rfl)))
        (try simp only [Act.put, List.getElem_toArray, List.getElem_cons_succ, List.getElem_cons_zero, List.setIfInBounds_toArray, List.set_cons_zero, List.set_cons_succ])
        refine wpAnyH_take (i := 34) (v := ?_) rfl (by kernel_rfl) (by kernel_rfl) (by kernel_rfl) (fun _ _ _ h => h) (Or.inl ⟨by rfl, ?_⟩) (by assumption) ?_
        rotate_left
        (focus (intro w hSw; (try dsimp only at hSw); go_simp; (try with_reducible rfl)))
        (try simp only [Act.put, List.getElem_toArray, List.getElem_cons_succ, List.getElem_cons_zero, List.setIfInBounds_toArray, List.set_cons_zero, List.set_cons_succ])
        refine wpAnyH_take (i := 35) (v := ?_) rfl (by kernel_rfl) (by kernel_rfl) (by kernel_rfl) (fun _ _ _ h => h) (Or.inl ⟨by rfl, ?_⟩) (by assumption) ?_
        rotate_left
        (focus (intro w hSw; (try dsimp only at hSw); go_simp; (try with_reducible rfl)))
        (try simp only [Act.put, List.getElem_toArray, List.getElem_cons_succ, List.getElem_cons_zero, List.setIfInBounds_toArray, List.set_cons_zero, List.set_cons_succ])
        refine wpAnyH_take (i := 36) (v := ?_) rfl (by kernel_rfl) (by kernel_rfl) (by kernel_rfl) (fun _ _ _ h => h) (Or.inl ⟨by rfl, ?_⟩) (by assumption) ?_
        rotate_left
        (focus (intro w hSw; (try dsimp only at hSw); go_simp; (try with_reducible rfl)))
        (try simp only [Act.put, List.getElem_toArray, List.getElem_cons_succ, List.getElem_cons_zero, List.setIfInBounds_toArray, List.set_cons_zero, List.set_cons_succ])
        refine wpAnyH_done (by kernel_rfl) ?_ _
        clear hHeld
        go_wp2_with fail
        go_ret
        exact ⟨rfl, (by (repeat' first | (with_reducible exact HB.out) | with_reducible refine setCells_below _ _ _ ?_ (by first | omega | (simp <;> omega)) | with_reducible refine Below.setCell ?_ (by show _ ≤ _; first | omega | (simp <;> omega) | simp) _ | with_reducible refine Below.alloc ?_ (by first | omega | (simp <;> omega)) _ | with_reducible apply Below.drew | with_reducible refine below_drewN ?_ _))⟩
      · skip
        have hlos : gLos m = true := HW1.out rfl
        clear HW1 HW2 HW3
        go_wp2_with fail
        refine wp_region_held_drew (S := (fun w' => (w'.cell? ⟨w2.heap.size, 0, none⟩ = some (.int .i64 m.a.re) ∧ w'.cell? ⟨w2.heap.size, 1, none⟩ = some (.int .i64 m.a.im) ∧ w'.cell? ⟨w2.heap.size, 2, none⟩ = some (.int .i64 m.a.den) ∧ w'.cell? ⟨w2.heap.size, 3, none⟩ = some (.int .i64 m.b.re) ∧ w'.cell? ⟨w2.heap.size, 4, none⟩ = some (.int .i64 m.b.im) ∧ w'.cell? ⟨w2.heap.size, 5, none⟩ = some (.int .i64 m.b.den) ∧ w'.cell? ⟨w2.heap.size, 6, none⟩ = some (.int .i64 m.c.re) ∧ w'.cell? ⟨w2.heap.size, 7, none⟩ = some (.int .i64 m.c.im) ∧ w'.cell? ⟨w2.heap.size, 8, none⟩ = some (.int .i64 m.c.den) ∧ w'.cell? ⟨w2.heap.size, 9, none⟩ = some (.int .i64 m.d.re) ∧ w'.cell? ⟨w2.heap.size, 10, none⟩ = some (.int .i64 m.d.im) ∧ w'.cell? ⟨w2.heap.size, 11, none⟩ = some (.int .i64 m.d.den)))) (by kernel_rfl) (show _ from (cellsM (show World.rangeAt (World.drew (w9.alloc (.cells #[.int .i64 y.a.re, .int .i64 y.a.im, .int .i64 y.a.den, .int .i64 y.b.re, .int .i64 y.b.im, .int .i64 y.b.den, .int .i64 y.c.re, .int .i64 y.c.im, .int .i64 y.c.den, .int .i64 y.d.re, .int .i64 y.d.im, .int .i64 y.d.den] 41))) (w2.heap.size) 0 [.int .i64 m.a.re, .int .i64 m.a.im, .int .i64 m.a.den, .int .i64 m.b.re, .int .i64 m.b.im, .int .i64 m.b.den, .int .i64 m.c.re, .int .i64 m.c.im, .int .i64 m.c.den, .int .i64 m.d.re, .int .i64 m.d.im, .int .i64 m.d.den] from (World.rangeAt_alloc Ho.out _)))) (fun hHeld => ?_)
        refine wpAnyH_take (i := 0) (v := ?_) rfl (by kernel_rfl) (by kernel_rfl) (by kernel_rfl) (fun _ _ _ h => h) (Or.inl ⟨by rfl, ?_⟩) (by assumption) ?_
        rotate_left
        (focus (intro w hSw; (try dsimp only at hSw); go_simp; (try with_reducible rfl)))
        (try simp only [Act.put, List.getElem_toArray, List.getElem_cons_zero, List.setIfInBounds_toArray, List.set_cons_zero, List.set_cons_succ])
        refine wpAnyH_take (i := 1) (v := ?_) rfl (by kernel_rfl) (by kernel_rfl) (by kernel_rfl) (fun _ _ _ h => h) (Or.inl ⟨by rfl, ?_⟩) (by assumption) ?_
        rotate_left
        (focus (intro w hSw; (try dsimp only at hSw); go_simp; (try with_reducible rfl)))
        (try simp only [Act.put, List.getElem_toArray, List.getElem_cons_succ, List.getElem_cons_zero, List.setIfInBounds_toArray, List.set_cons_zero, List.set_cons_succ])
        refine wpAnyH_take (i := 2) (v := ?_) rfl (by kernel_rfl) (by kernel_rfl) (by kernel_rfl) (fun _ _ _ h => h) (Or.inl ⟨by rfl, ?_⟩) (by assumption) ?_
        rotate_left
        (focus (intro w hSw; (try dsimp only at hSw); go_simp; (try with_reducible rfl)))
        (try simp only [Act.put, List.getElem_toArray, List.getElem_cons_succ, List.getElem_cons_zero, List.setIfInBounds_toArray, List.set_cons_zero, List.set_cons_succ])
        refine wpAnyH_take (i := 3) (v := ?_) rfl (by kernel_rfl) (by kernel_rfl) (by kernel_rfl) (fun _ _ _ h => h) (Or.inl ⟨by rfl, ?_⟩) (by assumption) ?_
        rotate_left
        (focus (intro w hSw; (try dsimp only at hSw); go_simp; (try with_reducible rfl)))
        (try simp only [Act.put, List.getElem_toArray, List.getElem_cons_succ, List.getElem_cons_zero, List.setIfInBounds_toArray, List.set_cons_zero, List.set_cons_succ])
        refine wpAnyH_take (i := 4) (v := ?_) rfl (by kernel_rfl) (by kernel_rfl) (by kernel_rfl) (fun _ _ _ h => h) (Or.inl ⟨by rfl, ?_⟩) (by assumption) ?_
        rotate_left
        (focus (intro w hSw; (try dsimp only at hSw); go_simp; (try with_reducible rfl)))
        (try simp only [Act.put, List.getElem_toArray, List.getElem_cons_succ, List.getElem_cons_zero, List.setIfInBounds_toArray, List.set_cons_zero, List.set_cons_succ])
        refine wpAnyH_take (i := 5) (v := ?_) rfl (by kernel_rfl) (by kernel_rfl) (by kernel_rfl) (fun _ _ _ h => h) (Or.inl ⟨by rfl, ?_⟩) (by assumption) ?_
        rotate_left
        (focus (intro w hSw; (try dsimp only at hSw); go_simp; (try with_reducible rfl)))
        (try simp only [Act.put, List.getElem_toArray, List.getElem_cons_succ, List.getElem_cons_zero, List.setIfInBounds_toArray, List.set_cons_zero, List.set_cons_succ])
        refine wpAnyH_ready (rs := [6]) (by kernel_rfl) (by simp) ?_
        refine AllReadyH.cons rfl (fun K hK => ?_) AllReadyH.nil
        go_simp
        go_at_call 55
        (with_reducible refine (ilos_any m _ (HG_same.out.below (Below.drew (Below.alloc HB.out (by first | omega | (simp; done) | (simp <;> omega)) _)))).mono ?_)
        rintro e w10 ho
        rw [hlos] at ho
        obtain ⟨rfl, hb⟩ : e = .returned (.bool true) ∧ Below _ _ _ := (id ho)
        clear ho
        have HB := Lib.hid (show Below w.heap.size w w10 from HB.out.trans ((show Below _ _ _ from (((Below.refl _ _).alloc (by first | omega | (simp; done) | (simp <;> omega)) _).drew)).trans (hb.mono (by first | omega | (simp <;> omega)))))
        have Ho : Hid (w10.rangeAt (w2.heap.size) 0 [.int .i64 m.a.re, .int .i64 m.a.im, .int .i64 m.a.den, .int .i64 m.b.re, .int .i64 m.b.im, .int .i64 m.b.den, .int .i64 m.c.re, .int .i64 m.c.im, .int .i64 m.c.den, .int .i64 m.d.re, .int .i64 m.d.im, .int .i64 m.d.den]) := rangeAt_below (show World.rangeAt (World.drew (w9.alloc (.cells #[.int .i64 y.a.re, .int .i64 y.a.im, .int .i64 y.a.den, .int .i64 y.b.re, .int .i64 y.b.im, .int .i64 y.b.den, .int .i64 y.c.re, .int .i64 y.c.im, .int .i64 y.c.den, .int .i64 y.d.re, .int .i64 y.d.im, .int .i64 y.d.den] 41))) (w2.heap.size) 0 [.int .i64 m.a.re, .int .i64 m.a.im, .int .i64 m.a.den, .int .i64 m.b.re, .int .i64 m.b.im, .int .i64 m.b.den, .int .i64 m.c.re, .int .i64 m.c.im, .int .i64 m.c.den, .int .i64 m.d.re, .int .i64 m.d.im, .int .i64 m.d.den] from (World.rangeAt_alloc Ho.out _)) hb (by first | omega | (simp; done) | (simp <;> omega))
        have Hqq : Hid (w10.rangeAt (w3.heap.size) 0 [.int .i64 m.a.re, .int .i64 m.a.im, .int .i64 m.a.den, .int .i64 m.b.re, .int .i64 m.b.im, .int .i64 m.b.den, .int .i64 m.c.re, .int .i64 m.c.im, .int .i64 m.c.den, .int .i64 m.d.re, .int .i64 m.d.im, .int .i64 m.d.den]) := rangeAt_below (show World.rangeAt (World.drew (w9.alloc (.cells #[.int .i64 y.a.re, .int .i64 y.a.im, .int .i64 y.a.den, .int .i64 y.b.re, .int .i64 y.b.im, .int .i64 y.b.den, .int .i64 y.c.re, .int .i64 y.c.im, .int .i64 y.c.den, .int .i64 y.d.re, .int .i64 y.d.im, .int .i64 y.d.den] 41))) (w3.heap.size) 0 [.int .i64 m.a.re, .int .i64 m.a.im, .int .i64 m.a.den, .int .i64 m.b.re, .int .i64 m.b.im, .int .i64 m.b.den, .int .i64 m.c.re, .int .i64 m.c.im, .int .i64 m.c.den, .int .i64 m.d.re, .int .i64 m.d.im, .int .i64 m.d.den] from (World.rangeAt_alloc Hqq.out _)) hb (by first | omega | (simp; done) | (simp <;> omega))
        have Had : Hid (w10.rangeAt (w4.heap.size) 0 [.int .i64 c.a.re, .int .i64 c.a.im, .int .i64 c.a.den, .int .i64 c.b.re, .int .i64 c.b.im, .int .i64 c.b.den, .int .i64 c.c.re, .int .i64 c.c.im, .int .i64 c.c.den, .int .i64 c.d.re, .int .i64 c.d.im, .int .i64 c.d.den]) := rangeAt_below (show World.rangeAt (World.drew (w9.alloc (.cells #[.int .i64 y.a.re, .int .i64 y.a.im, .int .i64 y.a.den, .int .i64 y.b.re, .int .i64 y.b.im, .int .i64 y.b.den, .int .i64 y.c.re, .int .i64 y.c.im, .int .i64 y.c.den, .int .i64 y.d.re, .int .i64 y.d.im, .int .i64 y.d.den] 41))) (w4.heap.size) 0 [.int .i64 c.a.re, .int .i64 c.a.im, .int .i64 c.a.den, .int .i64 c.b.re, .int .i64 c.b.im, .int .i64 c.b.den, .int .i64 c.c.re, .int .i64 c.c.im, .int .i64 c.c.den, .int .i64 c.d.re, .int .i64 c.d.im, .int .i64 c.d.den] from (World.rangeAt_alloc Had.out _)) hb (by first | omega | (simp; done) | (simp <;> omega))
        have Haa : Hid (w10.rangeAt (w5.heap.size) 0 [.int .i64 A.a.re, .int .i64 A.a.im, .int .i64 A.a.den, .int .i64 A.b.re, .int .i64 A.b.im, .int .i64 A.b.den, .int .i64 A.c.re, .int .i64 A.c.im, .int .i64 A.c.den, .int .i64 A.d.re, .int .i64 A.d.im, .int .i64 A.d.den]) := rangeAt_below (show World.rangeAt (World.drew (w9.alloc (.cells #[.int .i64 y.a.re, .int .i64 y.a.im, .int .i64 y.a.den, .int .i64 y.b.re, .int .i64 y.b.im, .int .i64 y.b.den, .int .i64 y.c.re, .int .i64 y.c.im, .int .i64 y.c.den, .int .i64 y.d.re, .int .i64 y.d.im, .int .i64 y.d.den] 41))) (w5.heap.size) 0 [.int .i64 A.a.re, .int .i64 A.a.im, .int .i64 A.a.den, .int .i64 A.b.re, .int .i64 A.b.im, .int .i64 A.b.den, .int .i64 A.c.re, .int .i64 A.c.im, .int .i64 A.c.den, .int .i64 A.d.re, .int .i64 A.d.im, .int .i64 A.d.den] from (World.rangeAt_alloc Haa.out _)) hb (by first | omega | (simp; done) | (simp <;> omega))
        have Hbd : Hid (w10.rangeAt (w6.heap.size) 0 [.int .i64 d.re, .int .i64 d.im, .int .i64 d.den]) := rangeAt_below (show World.rangeAt (World.drew (w9.alloc (.cells #[.int .i64 y.a.re, .int .i64 y.a.im, .int .i64 y.a.den, .int .i64 y.b.re, .int .i64 y.b.im, .int .i64 y.b.den, .int .i64 y.c.re, .int .i64 y.c.im, .int .i64 y.c.den, .int .i64 y.d.re, .int .i64 y.d.im, .int .i64 y.d.den] 41))) (w6.heap.size) 0 [.int .i64 d.re, .int .i64 d.im, .int .i64 d.den] from (World.rangeAt_alloc Hbd.out _)) hb (by first | omega | (simp; done) | (simp <;> omega))
        have Hpw : Hid (w10.rangeAt (w6.heap.size + 1) 0 [.int .i64 1, .int .i64 0, .int .i64 1, .int .i64 0, .int .i64 1, .int .i64 1, .int .i64 (-1), .int .i64 0, .int .i64 1, .int .i64 0, .int .i64 (-1), .int .i64 1]) := rangeAt_below (show World.rangeAt (World.drew (w9.alloc (.cells #[.int .i64 y.a.re, .int .i64 y.a.im, .int .i64 y.a.den, .int .i64 y.b.re, .int .i64 y.b.im, .int .i64 y.b.den, .int .i64 y.c.re, .int .i64 y.c.im, .int .i64 y.c.den, .int .i64 y.d.re, .int .i64 y.d.im, .int .i64 y.d.den] 41))) (w6.heap.size + 1) 0 [.int .i64 1, .int .i64 0, .int .i64 1, .int .i64 0, .int .i64 1, .int .i64 1, .int .i64 (-1), .int .i64 0, .int .i64 1, .int .i64 0, .int .i64 (-1), .int .i64 1] from (World.rangeAt_alloc Hpw.out _)) hb (by first | omega | (simp; done) | (simp <;> omega))
        have Hon : Hid (w10.rangeAt (w7.heap.size) 0 [.int .i64 u.a.re, .int .i64 u.a.im, .int .i64 u.a.den, .int .i64 u.b.re, .int .i64 u.b.im, .int .i64 u.b.den, .int .i64 u.c.re, .int .i64 u.c.im, .int .i64 u.c.den, .int .i64 u.d.re, .int .i64 u.d.im, .int .i64 u.d.den]) := rangeAt_below (show World.rangeAt (World.drew (w9.alloc (.cells #[.int .i64 y.a.re, .int .i64 y.a.im, .int .i64 y.a.den, .int .i64 y.b.re, .int .i64 y.b.im, .int .i64 y.b.den, .int .i64 y.c.re, .int .i64 y.c.im, .int .i64 y.c.den, .int .i64 y.d.re, .int .i64 y.d.im, .int .i64 y.d.den] 41))) (w7.heap.size) 0 [.int .i64 u.a.re, .int .i64 u.a.im, .int .i64 u.a.den, .int .i64 u.b.re, .int .i64 u.b.im, .int .i64 u.b.den, .int .i64 u.c.re, .int .i64 u.c.im, .int .i64 u.c.den, .int .i64 u.d.re, .int .i64 u.d.im, .int .i64 u.d.den] from (World.rangeAt_alloc Hon.out _)) hb (by first | omega | (simp; done) | (simp <;> omega))
        have Hbx : Hid (w10.rangeAt (w8.heap.size) 0 [.int .i64 X.a.re, .int .i64 X.a.im, .int .i64 X.a.den, .int .i64 X.b.re, .int .i64 X.b.im, .int .i64 X.b.den, .int .i64 X.c.re, .int .i64 X.c.im, .int .i64 X.c.den, .int .i64 X.d.re, .int .i64 X.d.im, .int .i64 X.d.den]) := rangeAt_below (show World.rangeAt (World.drew (w9.alloc (.cells #[.int .i64 y.a.re, .int .i64 y.a.im, .int .i64 y.a.den, .int .i64 y.b.re, .int .i64 y.b.im, .int .i64 y.b.den, .int .i64 y.c.re, .int .i64 y.c.im, .int .i64 y.c.den, .int .i64 y.d.re, .int .i64 y.d.im, .int .i64 y.d.den] 41))) (w8.heap.size) 0 [.int .i64 X.a.re, .int .i64 X.a.im, .int .i64 X.a.den, .int .i64 X.b.re, .int .i64 X.b.im, .int .i64 X.b.den, .int .i64 X.c.re, .int .i64 X.c.im, .int .i64 X.c.den, .int .i64 X.d.re, .int .i64 X.d.im, .int .i64 X.d.den] from (World.rangeAt_alloc Hbx.out _)) hb (by first | omega | (simp; done) | (simp <;> omega))
        have Hby : Hid (w10.rangeAt (w9.heap.size) 0 [.int .i64 y.a.re, .int .i64 y.a.im, .int .i64 y.a.den, .int .i64 y.b.re, .int .i64 y.b.im, .int .i64 y.b.den, .int .i64 y.c.re, .int .i64 y.c.im, .int .i64 y.c.den, .int .i64 y.d.re, .int .i64 y.d.im, .int .i64 y.d.den]) := rangeAt_below (show World.rangeAt (World.drew (w9.alloc (.cells #[.int .i64 y.a.re, .int .i64 y.a.im, .int .i64 y.a.den, .int .i64 y.b.re, .int .i64 y.b.im, .int .i64 y.b.den, .int .i64 y.c.re, .int .i64 y.c.im, .int .i64 y.c.den, .int .i64 y.d.re, .int .i64 y.d.im, .int .i64 y.d.den] 41))) (w9.heap.size) 0 [.int .i64 y.a.re, .int .i64 y.a.im, .int .i64 y.a.den, .int .i64 y.b.re, .int .i64 y.b.im, .int .i64 y.b.den, .int .i64 y.c.re, .int .i64 y.c.im, .int .i64 y.c.den, .int .i64 y.d.re, .int .i64 y.d.im, .int .i64 y.d.den] from (rangeAt_new _ _ _)) hb (by first | omega | (simp; done) | (simp <;> omega))
        have hz10 := hb.size
        (try simp at hz10)
        clear hb
        have nA0 : w2.heap.size < w10.heap.size := by omega
        have nB0 : ¬ w2.heap.size = w10.heap.size := by omega
        have nC0 : ¬ w10.heap.size = w2.heap.size := by omega
        have nA1 : w3.heap.size < w10.heap.size := by omega
        have nB1 : ¬ w3.heap.size = w10.heap.size := by omega
        have nC1 : ¬ w10.heap.size = w3.heap.size := by omega
        have nA2 : w4.heap.size < w10.heap.size := by omega
        have nB2 : ¬ w4.heap.size = w10.heap.size := by omega
        have nC2 : ¬ w10.heap.size = w4.heap.size := by omega
        have nA3 : w5.heap.size < w10.heap.size := by omega
        have nB3 : ¬ w5.heap.size = w10.heap.size := by omega
        have nC3 : ¬ w10.heap.size = w5.heap.size := by omega
        have nA4 : w6.heap.size < w10.heap.size := by omega
        have nB4 : ¬ w6.heap.size = w10.heap.size := by omega
        have nC4 : ¬ w10.heap.size = w6.heap.size := by omega
        have nA5 : w6.heap.size + 1 < w10.heap.size := by omega
        have nB5 : ¬ w6.heap.size + 1 = w10.heap.size := by omega
        have nC5 : ¬ w10.heap.size = w6.heap.size + 1 := by omega
        have nA6 : w7.heap.size < w10.heap.size := by omega
        have nB6 : ¬ w7.heap.size = w10.heap.size := by omega
        have nC6 : ¬ w10.heap.size = w7.heap.size := by omega
        have nA7 : w8.heap.size < w10.heap.size := by omega
        have nB7 : ¬ w8.heap.size = w10.heap.size := by omega
        have nC7 : ¬ w10.heap.size = w8.heap.size := by omega
        have nA8 : w9.heap.size < w10.heap.size := by omega
        have nB8 : ¬ w9.heap.size = w10.heap.size := by omega
        have nC8 : ¬ w10.heap.size = w9.heap.size := by omega
        refine hK.out _ _ (show _ from (cellsM Ho.out)) (fun hHeld => ?_)
        clear hK K
        (try simp only [Act.put, List.getElem_toArray, List.getElem_cons_succ, List.getElem_cons_zero, List.setIfInBounds_toArray, List.set_cons_zero, List.set_cons_succ])
        refine wpAnyH_take (i := 7) (v := ?_) rfl (by kernel_rfl) (by kernel_rfl) (by kernel_rfl) (fun _ _ _ h => h) (Or.inl ⟨by rfl, ?_⟩) (by assumption) ?_
        rotate_left
        (focus (intro w hSw; (try dsimp only at hSw); go_simp; (try with_reducible rfl)))
        (try simp only [Act.put, List.getElem_toArray, List.getElem_cons_succ, List.getElem_cons_zero, List.setIfInBounds_toArray, List.set_cons_zero, List.set_cons_succ])
        refine wpAnyH_take (i := 8) (v := ?_) rfl (by kernel_rfl) (by kernel_rfl) (by kernel_rfl) (fun _ _ _ h => h) (Or.inl ⟨by rfl, ?_⟩) (by assumption) ?_
        rotate_left
        (focus (intro w hSw; (try dsimp only at hSw); go_simp; (try with_reducible rfl)))
        (try simp only [Act.put, List.getElem_toArray, List.getElem_cons_succ, List.getElem_cons_zero, List.setIfInBounds_toArray, List.set_cons_zero, List.set_cons_succ])
        refine wpAnyH_take (i := 9) (v := ?_) rfl (by kernel_rfl) (by kernel_rfl) (by kernel_rfl) (fun _ _ _ h => h) (Or.inl ⟨by rfl, ?_⟩) (by assumption) ?_
        rotate_left
        (focus (intro w hSw; (try dsimp only at hSw); go_simp; (try with_reducible rfl)))
        (try simp only [Act.put, List.getElem_toArray, List.getElem_cons_succ, List.getElem_cons_zero, List.setIfInBounds_toArray, List.set_cons_zero, List.set_cons_succ])
        refine wpAnyH_take (i := 10) (v := ?_) rfl (by kernel_rfl) (by kernel_rfl) (by kernel_rfl) (fun _ _ _ h => h) (Or.inl ⟨by rfl, ?_⟩) (by assumption) ?_
        rotate_left
        (focus (intro w hSw; (try dsimp only at hSw); go_simp; (try with_reducible rfl)))
        (try simp only [Act.put, List.getElem_toArray, List.getElem_cons_succ, List.getElem_cons_zero, List.setIfInBounds_toArray, List.set_cons_zero, List.set_cons_succ])
        refine wpAnyH_take (i := 11) (v := ?_) rfl (by kernel_rfl) (by kernel_rfl) (by kernel_rfl) (fun _ _ _ h => h) (Or.inl ⟨by rfl, ?_⟩) (by assumption) ?_
        rotate_left
        (focus (intro w hSw; (try dsimp only at hSw); go_simp; (try with_reducible rfl)))
        (try simp only [Act.put, List.getElem_toArray, List.getElem_cons_succ, List.getElem_cons_zero, List.setIfInBounds_toArray, List.set_cons_zero, List.set_cons_succ])
        refine wpAnyH_take (i := 12) (v := ?_) rfl (by kernel_rfl) (by kernel_rfl) (by kernel_rfl) (fun _ _ _ h => h) (Or.inl ⟨by rfl, ?_⟩) (by assumption) ?_
        rotate_left
        (focus (intro w hSw; (try dsimp only at hSw); go_simp; (try with_reducible rfl)))
        (try simp only [Act.put, List.getElem_toArray, List.getElem_cons_succ, List.getElem_cons_zero, List.setIfInBounds_toArray, List.set_cons_zero, List.set_cons_succ])
        refine wpAnyH_take (i := 13) rfl (by kernel_rfl) (by kernel_rfl) (by kernel_rfl) (fun _ _ _ h => h) (Or.inr ⟨by rfl, rfl⟩) (by assumption) ?_
        (try simp only [Act.put, List.getElem_toArray, List.getElem_cons_succ, List.getElem_cons_zero, List.setIfInBounds_toArray, List.set_cons_zero, List.set_cons_succ])
        refine wpAnyH_take (i := 14) rfl (by kernel_rfl) (by kernel_rfl) (by kernel_rfl) (fun _ _ _ h => h) (Or.inr ⟨by rfl, rfl⟩) (by assumption) ?_
        (try simp only [Act.put, List.getElem_toArray, List.getElem_cons_succ, List.getElem_cons_zero, List.setIfInBounds_toArray, List.set_cons_zero, List.set_cons_succ])
        refine wpAnyH_take (i := 15) rfl (by kernel_rfl) (by kernel_rfl) (by kernel_rfl) (fun _ _ _ h => h) (Or.inr ⟨by rfl, rfl⟩) (by assumption) ?_
        (try simp only [Act.put, List.getElem_toArray, List.getElem_cons_succ, List.getElem_cons_zero, List.setIfInBounds_toArray, List.set_cons_zero, List.set_cons_succ])
        refine wpAnyH_take (i := 16) rfl (by kernel_rfl) (by kernel_rfl) (by kernel_rfl) (fun _ _ _ h => h) (Or.inr ⟨by rfl, rfl⟩) (by assumption) ?_
        (try simp only [Act.put, List.getElem_toArray, List.getElem_cons_succ, List.getElem_cons_zero, List.setIfInBounds_toArray, List.set_cons_zero, List.set_cons_succ])
        refine wpAnyH_take (i := 17) rfl (by kernel_rfl) (by kernel_rfl) (by kernel_rfl) (fun _ _ _ h => h) (Or.inr ⟨by rfl, rfl⟩) (by assumption) ?_
        (try simp only [Act.put, List.getElem_toArray, List.getElem_cons_succ, List.getElem_cons_zero, List.setIfInBounds_toArray, List.set_cons_zero, List.set_cons_succ])
        refine wpAnyH_take (i := 18) rfl (by kernel_rfl) (by kernel_rfl) (by kernel_rfl) (fun _ _ _ h => h) (Or.inr ⟨by rfl, rfl⟩) (by assumption) ?_
        (try simp only [Act.put, List.getElem_toArray, List.getElem_cons_succ, List.getElem_cons_zero, List.setIfInBounds_toArray, List.set_cons_zero, List.set_cons_succ])
        refine wpAnyH_take (i := 19) (v := ?_) rfl (by kernel_rfl) (by kernel_rfl) (by kernel_rfl) (fun _ _ _ h => h) (Or.inl ⟨by rfl, ?_⟩) (by assumption) ?_
        rotate_left
        (focus (intro w hSw; (try dsimp only at hSw); go_simp; (try with_reducible rfl)))
        (try simp only [Act.put, List.getElem_toArray, List.getElem_cons_succ, List.getElem_cons_zero, List.setIfInBounds_toArray, List.set_cons_zero, List.set_cons_succ])
        refine wpAnyH_take (i := 20) (v := ?_) rfl (by kernel_rfl) (by kernel_rfl) (by kernel_rfl) (fun _ _ _ h => h) (Or.inl ⟨by rfl, ?_⟩) (by assumption) ?_
        rotate_left
        (focus (intro w hSw; (try dsimp only at hSw); go_simp; (try with_reducible rfl)))
        (try simp only [Act.put, List.getElem_toArray, List.getElem_cons_succ, List.getElem_cons_zero, List.setIfInBounds_toArray, List.set_cons_zero, List.set_cons_succ])
        refine wpAnyH_take (i := 21) (v := ?_) rfl (by kernel_rfl) (by kernel_rfl) (by kernel_rfl) (fun _ _ _ h => h) (Or.inl ⟨by rfl, ?_⟩) (by assumption) ?_
        rotate_left
        (focus (intro w hSw; (try dsimp only at hSw); go_simp; (try with_reducible rfl)))
        (try simp only [Act.put, List.getElem_toArray, List.getElem_cons_succ, List.getElem_cons_zero, List.setIfInBounds_toArray, List.set_cons_zero, List.set_cons_succ])
        refine wpAnyH_take (i := 22) (v := ?_) rfl (by kernel_rfl) (by kernel_rfl) (by kernel_rfl) (fun _ _ _ h => h) (Or.inl ⟨by rfl, ?_⟩) (by assumption) ?_
        rotate_left
        (focus (intro w hSw; (try dsimp only at hSw); go_simp; (try with_reducible rfl)))
        (try simp only [Act.put, List.getElem_toArray, List.getElem_cons_succ, List.getElem_cons_zero, List.setIfInBounds_toArray, List.set_cons_zero, List.set_cons_succ])
        refine wpAnyH_take (i := 23) (v := ?_) rfl (by kernel_rfl) (by kernel_rfl) (by kernel_rfl) (fun _ _ _ h => h) (Or.inl ⟨by rfl, ?_⟩) (by assumption) ?_
        rotate_left
        (focus (intro w hSw; (try dsimp only at hSw); go_simp; (try with_reducible rfl)))
        (try simp only [Act.put, List.getElem_toArray, List.getElem_cons_succ, List.getElem_cons_zero, List.setIfInBounds_toArray, List.set_cons_zero, List.set_cons_succ])
        refine wpAnyH_take (i := 24) (v := ?_) rfl (by kernel_rfl) (by kernel_rfl) (by kernel_rfl) (fun _ _ _ h => h) (Or.inl ⟨by rfl, ?_⟩) (by assumption) ?_
        rotate_left
        (focus (intro w hSw; (try dsimp only at hSw); go_simp; (try with_reducible rfl)))
        (try simp only [Act.put, List.getElem_toArray, List.getElem_cons_succ, List.getElem_cons_zero, List.setIfInBounds_toArray, List.set_cons_zero, List.set_cons_succ])
        refine wpAnyH_take (i := 25) (v := ?_) rfl (by kernel_rfl) (by kernel_rfl) (by kernel_rfl) (fun _ _ _ h => h) (Or.inl ⟨by rfl, ?_⟩) (by assumption) ?_
        rotate_left
        (focus (intro w hSw; (try dsimp only at hSw); go_simp; (try with_reducible rfl)))
        (try simp only [Act.put, List.getElem_toArray, List.getElem_cons_succ, List.getElem_cons_zero, List.setIfInBounds_toArray, List.set_cons_zero, List.set_cons_succ])
        refine wpAnyH_take (i := 26) (v := ?_) rfl (by kernel_rfl) (by kernel_rfl) (by kernel_rfl) (fun _ _ _ h => h) (Or.inl ⟨by rfl, ?_⟩) (by assumption) ?_
        rotate_left
        (focus (intro w hSw; (try dsimp only at hSw); go_simp; (try with_reducible rfl)))
        (try simp only [Act.put, List.getElem_toArray, List.getElem_cons_succ, List.getElem_cons_zero, List.setIfInBounds_toArray, List.set_cons_zero, List.set_cons_succ])
        refine wpAnyH_take (i := 27) (v := ?_) rfl (by kernel_rfl) (by kernel_rfl) (by kernel_rfl) (fun _ _ _ h => h) (Or.inl ⟨by rfl, ?_⟩) (by assumption) ?_
        rotate_left
        (focus (intro w hSw; (try dsimp only at hSw); go_simp; (try with_reducible rfl)))
        (try simp only [Act.put, List.getElem_toArray, List.getElem_cons_succ, List.getElem_cons_zero, List.setIfInBounds_toArray, List.set_cons_zero, List.set_cons_succ])
        refine wpAnyH_take (i := 28) (v := ?_) rfl (by kernel_rfl) (by kernel_rfl) (by kernel_rfl) (fun _ _ _ h => h) (Or.inl ⟨by rfl, ?_⟩) (by assumption) ?_
        rotate_left
        (focus (intro w hSw; (try dsimp only at hSw); go_simp; (try with_reducible rfl)))
        (try simp only [Act.put, List.getElem_toArray, List.getElem_cons_succ, List.getElem_cons_zero, List.setIfInBounds_toArray, List.set_cons_zero, List.set_cons_succ])
        refine wpAnyH_take (i := 29) (v := ?_) rfl (by kernel_rfl) (by kernel_rfl) (by kernel_rfl) (fun _ _ _ h => h) (Or.inl ⟨by rfl, ?_⟩) (by assumption) ?_
        rotate_left
        (focus (intro w hSw; (try dsimp only at hSw); go_simp; (try with_reducible rfl)))
        (try simp only [Act.put, List.getElem_toArray, List.getElem_cons_succ, List.getElem_cons_zero, List.setIfInBounds_toArray, List.set_cons_zero, List.set_cons_succ])
        refine wpAnyH_take (i := 30) (v := ?_) rfl (by kernel_rfl) (by kernel_rfl) (by kernel_rfl) (fun _ _ _ h => h) (Or.inl ⟨by rfl, ?_⟩) (by assumption) ?_
        rotate_left
        (focus (intro w hSw; (try dsimp only at hSw); go_simp; (try with_reducible rfl)))
        (try simp only [Act.put, List.getElem_toArray, List.getElem_cons_succ, List.getElem_cons_zero, List.setIfInBounds_toArray, List.set_cons_zero, List.set_cons_succ])
        refine wpAnyH_take (i := 31) rfl (by kernel_rfl) (by kernel_rfl) (by kernel_rfl) (fun _ _ _ h => h) (Or.inr ⟨by rfl, rfl⟩) (by assumption) ?_
        (try simp only [Act.put, List.getElem_toArray, List.getElem_cons_succ, List.getElem_cons_zero, List.setIfInBounds_toArray, List.set_cons_zero, List.set_cons_succ])
        refine wpAnyH_take (i := 32) rfl (by kernel_rfl) (by kernel_rfl) (by kernel_rfl) (fun _ _ _ h => h) (Or.inr ⟨by rfl, rfl⟩) (by assumption) ?_
        (try simp only [Act.put, List.getElem_toArray, List.getElem_cons_succ, List.getElem_cons_zero, List.setIfInBounds_toArray, List.set_cons_zero, List.set_cons_succ])
        refine wpAnyH_take (i := 33) rfl (by kernel_rfl) (by kernel_rfl) (by kernel_rfl) (fun _ _ _ h => h) (Or.inr ⟨by rfl, rfl⟩) (by assumption) ?_
        (try simp only [Act.put, List.getElem_toArray, List.getElem_cons_succ, List.getElem_cons_zero, List.setIfInBounds_toArray, List.set_cons_zero, List.set_cons_succ])
        refine wpAnyH_take (i := 34) (v := ?_) rfl (by kernel_rfl) (by kernel_rfl) (by kernel_rfl) (fun _ _ _ h => h) (Or.inl ⟨by rfl, ?_⟩) (by assumption) ?_
        rotate_left
        (focus (intro w hSw; (try dsimp only at hSw); go_simp; (try with_reducible rfl)))
        (try simp only [Act.put, List.getElem_toArray, List.getElem_cons_succ, List.getElem_cons_zero, List.setIfInBounds_toArray, List.set_cons_zero, List.set_cons_succ])
        refine wpAnyH_take (i := 35) (v := ?_) rfl (by kernel_rfl) (by kernel_rfl) (by kernel_rfl) (fun _ _ _ h => h) (Or.inl ⟨by rfl, ?_⟩) (by assumption) ?_
        rotate_left
        (focus (intro w hSw; (try dsimp only at hSw); go_simp; (try with_reducible rfl)))
        (try simp only [Act.put, List.getElem_toArray, List.getElem_cons_succ, List.getElem_cons_zero, List.setIfInBounds_toArray, List.set_cons_zero, List.set_cons_succ])
        refine wpAnyH_take (i := 36) (v := ?_) rfl (by kernel_rfl) (by kernel_rfl) (by kernel_rfl) (fun _ _ _ h => h) (Or.inl ⟨by rfl, ?_⟩) (by assumption) ?_
        rotate_left
        (focus (intro w hSw; (try dsimp only at hSw); go_simp; (try with_reducible rfl)))
        (try simp only [Act.put, List.getElem_toArray, List.getElem_cons_succ, List.getElem_cons_zero, List.setIfInBounds_toArray, List.set_cons_zero, List.set_cons_succ])
        refine wpAnyH_done (by kernel_rfl) ?_ _
        clear hHeld
        go_wp2_with fail
        go_ret
        exact ⟨rfl, (by (repeat' first | (with_reducible exact HB.out) | with_reducible refine setCells_below _ _ _ ?_ (by first | omega | (simp <;> omega)) | with_reducible refine Below.setCell ?_ (by show _ ≤ _; first | omega | (simp <;> omega) | simp) _ | with_reducible refine Below.alloc ?_ (by first | omega | (simp <;> omega)) _ | with_reducible apply Below.drew | with_reducible refine below_drewN ?_ _))⟩
      · skip
        obtain rfl : X = y := HW3.out rfl
        have hEq2 : ∀ w, (Op.equalIn 10000 41 (.agg #[.int .i64 X.a.re, .int .i64 X.a.im, .int .i64 X.a.den, .int .i64 X.b.re, .int .i64 X.b.im, .int .i64 X.b.den, .int .i64 X.c.re, .int .i64 X.c.im, .int .i64 X.c.den, .int .i64 X.d.re, .int .i64 X.d.im, .int .i64 X.d.den]) (.agg #[.int .i64 X.a.re, .int .i64 X.a.im, .int .i64 X.a.den, .int .i64 X.b.re, .int .i64 X.b.im, .int .i64 X.b.den, .int .i64 X.c.re, .int .i64 X.c.im, .int .i64 X.c.den, .int .i64 X.d.re, .int .i64 X.d.im, .int .i64 X.d.den])).run Tryd.prog w = .ok true w := eqMat_run X
        have hlos : gLos m = true := HW1.out rfl
        clear HW1 HW2 HW3
        go_wp2_with fail
        refine wp_region_held_drew (S := (fun w' => (w'.cell? ⟨w2.heap.size, 0, none⟩ = some (.int .i64 m.a.re) ∧ w'.cell? ⟨w2.heap.size, 1, none⟩ = some (.int .i64 m.a.im) ∧ w'.cell? ⟨w2.heap.size, 2, none⟩ = some (.int .i64 m.a.den) ∧ w'.cell? ⟨w2.heap.size, 3, none⟩ = some (.int .i64 m.b.re) ∧ w'.cell? ⟨w2.heap.size, 4, none⟩ = some (.int .i64 m.b.im) ∧ w'.cell? ⟨w2.heap.size, 5, none⟩ = some (.int .i64 m.b.den) ∧ w'.cell? ⟨w2.heap.size, 6, none⟩ = some (.int .i64 m.c.re) ∧ w'.cell? ⟨w2.heap.size, 7, none⟩ = some (.int .i64 m.c.im) ∧ w'.cell? ⟨w2.heap.size, 8, none⟩ = some (.int .i64 m.c.den) ∧ w'.cell? ⟨w2.heap.size, 9, none⟩ = some (.int .i64 m.d.re) ∧ w'.cell? ⟨w2.heap.size, 10, none⟩ = some (.int .i64 m.d.im) ∧ w'.cell? ⟨w2.heap.size, 11, none⟩ = some (.int .i64 m.d.den)) ∧ (w'.cell? ⟨w8.heap.size, 0, none⟩ = some (.int .i64 X.a.re) ∧ w'.cell? ⟨w8.heap.size, 1, none⟩ = some (.int .i64 X.a.im) ∧ w'.cell? ⟨w8.heap.size, 2, none⟩ = some (.int .i64 X.a.den) ∧ w'.cell? ⟨w8.heap.size, 3, none⟩ = some (.int .i64 X.b.re) ∧ w'.cell? ⟨w8.heap.size, 4, none⟩ = some (.int .i64 X.b.im) ∧ w'.cell? ⟨w8.heap.size, 5, none⟩ = some (.int .i64 X.b.den) ∧ w'.cell? ⟨w8.heap.size, 6, none⟩ = some (.int .i64 X.c.re) ∧ w'.cell? ⟨w8.heap.size, 7, none⟩ = some (.int .i64 X.c.im) ∧ w'.cell? ⟨w8.heap.size, 8, none⟩ = some (.int .i64 X.c.den) ∧ w'.cell? ⟨w8.heap.size, 9, none⟩ = some (.int .i64 X.d.re) ∧ w'.cell? ⟨w8.heap.size, 10, none⟩ = some (.int .i64 X.d.im) ∧ w'.cell? ⟨w8.heap.size, 11, none⟩ = some (.int .i64 X.d.den)) ∧ (w'.cell? ⟨w9.heap.size, 0, none⟩ = some (.int .i64 X.a.re) ∧ w'.cell? ⟨w9.heap.size, 1, none⟩ = some (.int .i64 X.a.im) ∧ w'.cell? ⟨w9.heap.size, 2, none⟩ = some (.int .i64 X.a.den) ∧ w'.cell? ⟨w9.heap.size, 3, none⟩ = some (.int .i64 X.b.re) ∧ w'.cell? ⟨w9.heap.size, 4, none⟩ = some (.int .i64 X.b.im) ∧ w'.cell? ⟨w9.heap.size, 5, none⟩ = some (.int .i64 X.b.den) ∧ w'.cell? ⟨w9.heap.size, 6, none⟩ = some (.int .i64 X.c.re) ∧ w'.cell? ⟨w9.heap.size, 7, none⟩ = some (.int .i64 X.c.im) ∧ w'.cell? ⟨w9.heap.size, 8, none⟩ = some (.int .i64 X.c.den) ∧ w'.cell? ⟨w9.heap.size, 9, none⟩ = some (.int .i64 X.d.re) ∧ w'.cell? ⟨w9.heap.size, 10, none⟩ = some (.int .i64 X.d.im) ∧ w'.cell? ⟨w9.heap.size, 11, none⟩ = some (.int .i64 X.d.den)))) (by kernel_rfl) (show _ from ⟨(cellsM (show World.rangeAt (World.drew (w9.alloc (.cells #[.int .i64 X.a.re, .int .i64 X.a.im, .int .i64 X.a.den, .int .i64 X.b.re, .int .i64 X.b.im, .int .i64 X.b.den, .int .i64 X.c.re, .int .i64 X.c.im, .int .i64 X.c.den, .int .i64 X.d.re, .int .i64 X.d.im, .int .i64 X.d.den] 41))) (w2.heap.size) 0 [.int .i64 m.a.re, .int .i64 m.a.im, .int .i64 m.a.den, .int .i64 m.b.re, .int .i64 m.b.im, .int .i64 m.b.den, .int .i64 m.c.re, .int .i64 m.c.im, .int .i64 m.c.den, .int .i64 m.d.re, .int .i64 m.d.im, .int .i64 m.d.den] from (World.rangeAt_alloc Ho.out _))), (cellsM (show World.rangeAt (World.drew (w9.alloc (.cells #[.int .i64 X.a.re, .int .i64 X.a.im, .int .i64 X.a.den, .int .i64 X.b.re, .int .i64 X.b.im, .int .i64 X.b.den, .int .i64 X.c.re, .int .i64 X.c.im, .int .i64 X.c.den, .int .i64 X.d.re, .int .i64 X.d.im, .int .i64 X.d.den] 41))) (w8.heap.size) 0 [.int .i64 X.a.re, .int .i64 X.a.im, .int .i64 X.a.den, .int .i64 X.b.re, .int .i64 X.b.im, .int .i64 X.b.den, .int .i64 X.c.re, .int .i64 X.c.im, .int .i64 X.c.den, .int .i64 X.d.re, .int .i64 X.d.im, .int .i64 X.d.den] from (World.rangeAt_alloc Hbx.out _))), (cellsM (show World.rangeAt (World.drew (w9.alloc (.cells #[.int .i64 X.a.re, .int .i64 X.a.im, .int .i64 X.a.den, .int .i64 X.b.re, .int .i64 X.b.im, .int .i64 X.b.den, .int .i64 X.c.re, .int .i64 X.c.im, .int .i64 X.c.den, .int .i64 X.d.re, .int .i64 X.d.im, .int .i64 X.d.den] 41))) (w9.heap.size) 0 [.int .i64 X.a.re, .int .i64 X.a.im, .int .i64 X.a.den, .int .i64 X.b.re, .int .i64 X.b.im, .int .i64 X.b.den, .int .i64 X.c.re, .int .i64 X.c.im, .int .i64 X.c.den, .int .i64 X.d.re, .int .i64 X.d.im, .int .i64 X.d.den] from (rangeAt_new _ _ _)))⟩) (fun hHeld => ?_)
        refine wpAnyH_take (i := 0) (v := ?_) rfl (by kernel_rfl) (by kernel_rfl) (by kernel_rfl) (fun _ _ _ h => h) (Or.inl ⟨by rfl, ?_⟩) (by assumption) ?_
        rotate_left
        (focus (intro w hSw; (try dsimp only at hSw); go_simp; (try with_reducible rfl)))
        (try simp only [Act.put, List.getElem_toArray, List.getElem_cons_zero, List.setIfInBounds_toArray, List.set_cons_zero, List.set_cons_succ])
        refine wpAnyH_take (i := 1) (v := ?_) rfl (by kernel_rfl) (by kernel_rfl) (by kernel_rfl) (fun _ _ _ h => h) (Or.inl ⟨by rfl, ?_⟩) (by assumption) ?_
        rotate_left
        (focus (intro w hSw; (try dsimp only at hSw); go_simp; (try with_reducible rfl)))
        (try simp only [Act.put, List.getElem_toArray, List.getElem_cons_succ, List.getElem_cons_zero, List.setIfInBounds_toArray, List.set_cons_zero, List.set_cons_succ])
        refine wpAnyH_take (i := 2) (v := ?_) rfl (by kernel_rfl) (by kernel_rfl) (by kernel_rfl) (fun _ _ _ h => h) (Or.inl ⟨by rfl, ?_⟩) (by assumption) ?_
        rotate_left
        (focus (intro w hSw; (try dsimp only at hSw); go_simp; (try with_reducible rfl)))
        (try simp only [Act.put, List.getElem_toArray, List.getElem_cons_succ, List.getElem_cons_zero, List.setIfInBounds_toArray, List.set_cons_zero, List.set_cons_succ])
        refine wpAnyH_take (i := 3) (v := ?_) rfl (by kernel_rfl) (by kernel_rfl) (by kernel_rfl) (fun _ _ _ h => h) (Or.inl ⟨by rfl, ?_⟩) (by assumption) ?_
        rotate_left
        (focus (intro w hSw; (try dsimp only at hSw); go_simp; (try with_reducible rfl)))
        (try simp only [Act.put, List.getElem_toArray, List.getElem_cons_succ, List.getElem_cons_zero, List.setIfInBounds_toArray, List.set_cons_zero, List.set_cons_succ])
        refine wpAnyH_take (i := 4) (v := ?_) rfl (by kernel_rfl) (by kernel_rfl) (by kernel_rfl) (fun _ _ _ h => h) (Or.inl ⟨by rfl, ?_⟩) (by assumption) ?_
        rotate_left
        (focus (intro w hSw; (try dsimp only at hSw); go_simp; (try with_reducible rfl)))
        (try simp only [Act.put, List.getElem_toArray, List.getElem_cons_succ, List.getElem_cons_zero, List.setIfInBounds_toArray, List.set_cons_zero, List.set_cons_succ])
        refine wpAnyH_take (i := 5) (v := ?_) rfl (by kernel_rfl) (by kernel_rfl) (by kernel_rfl) (fun _ _ _ h => h) (Or.inl ⟨by rfl, ?_⟩) (by assumption) ?_
        rotate_left
        (focus (intro w hSw; (try dsimp only at hSw); go_simp; (try with_reducible rfl)))
        (try simp only [Act.put, List.getElem_toArray, List.getElem_cons_succ, List.getElem_cons_zero, List.setIfInBounds_toArray, List.set_cons_zero, List.set_cons_succ])
        refine wpAnyH_ready (rs := [6]) (by kernel_rfl) (by simp) ?_
        refine AllReadyH.cons rfl (fun K hK => ?_) AllReadyH.nil
        go_simp
        go_at_call 55
        (with_reducible refine (ilos_any m _ (HG_same.out.below (Below.drew (Below.alloc HB.out (by first | omega | (simp; done) | (simp <;> omega)) _)))).mono ?_)
        rintro e w10 ho
        rw [hlos] at ho
        obtain ⟨rfl, hb⟩ : e = .returned (.bool true) ∧ Below _ _ _ := (id ho)
        clear ho
        have HB := Lib.hid (show Below w.heap.size w w10 from HB.out.trans ((show Below _ _ _ from (((Below.refl _ _).alloc (by first | omega | (simp; done) | (simp <;> omega)) _).drew)).trans (hb.mono (by first | omega | (simp <;> omega)))))
        have Ho : Hid (w10.rangeAt (w2.heap.size) 0 [.int .i64 m.a.re, .int .i64 m.a.im, .int .i64 m.a.den, .int .i64 m.b.re, .int .i64 m.b.im, .int .i64 m.b.den, .int .i64 m.c.re, .int .i64 m.c.im, .int .i64 m.c.den, .int .i64 m.d.re, .int .i64 m.d.im, .int .i64 m.d.den]) := rangeAt_below (show World.rangeAt (World.drew (w9.alloc (.cells #[.int .i64 X.a.re, .int .i64 X.a.im, .int .i64 X.a.den, .int .i64 X.b.re, .int .i64 X.b.im, .int .i64 X.b.den, .int .i64 X.c.re, .int .i64 X.c.im, .int .i64 X.c.den, .int .i64 X.d.re, .int .i64 X.d.im, .int .i64 X.d.den] 41))) (w2.heap.size) 0 [.int .i64 m.a.re, .int .i64 m.a.im, .int .i64 m.a.den, .int .i64 m.b.re, .int .i64 m.b.im, .int .i64 m.b.den, .int .i64 m.c.re, .int .i64 m.c.im, .int .i64 m.c.den, .int .i64 m.d.re, .int .i64 m.d.im, .int .i64 m.d.den] from (World.rangeAt_alloc Ho.out _)) hb (by first | omega | (simp; done) | (simp <;> omega))
        have Hqq : Hid (w10.rangeAt (w3.heap.size) 0 [.int .i64 m.a.re, .int .i64 m.a.im, .int .i64 m.a.den, .int .i64 m.b.re, .int .i64 m.b.im, .int .i64 m.b.den, .int .i64 m.c.re, .int .i64 m.c.im, .int .i64 m.c.den, .int .i64 m.d.re, .int .i64 m.d.im, .int .i64 m.d.den]) := rangeAt_below (show World.rangeAt (World.drew (w9.alloc (.cells #[.int .i64 X.a.re, .int .i64 X.a.im, .int .i64 X.a.den, .int .i64 X.b.re, .int .i64 X.b.im, .int .i64 X.b.den, .int .i64 X.c.re, .int .i64 X.c.im, .int .i64 X.c.den, .int .i64 X.d.re, .int .i64 X.d.im, .int .i64 X.d.den] 41))) (w3.heap.size) 0 [.int .i64 m.a.re, .int .i64 m.a.im, .int .i64 m.a.den, .int .i64 m.b.re, .int .i64 m.b.im, .int .i64 m.b.den, .int .i64 m.c.re, .int .i64 m.c.im, .int .i64 m.c.den, .int .i64 m.d.re, .int .i64 m.d.im, .int .i64 m.d.den] from (World.rangeAt_alloc Hqq.out _)) hb (by first | omega | (simp; done) | (simp <;> omega))
        have Had : Hid (w10.rangeAt (w4.heap.size) 0 [.int .i64 c.a.re, .int .i64 c.a.im, .int .i64 c.a.den, .int .i64 c.b.re, .int .i64 c.b.im, .int .i64 c.b.den, .int .i64 c.c.re, .int .i64 c.c.im, .int .i64 c.c.den, .int .i64 c.d.re, .int .i64 c.d.im, .int .i64 c.d.den]) := rangeAt_below (show World.rangeAt (World.drew (w9.alloc (.cells #[.int .i64 X.a.re, .int .i64 X.a.im, .int .i64 X.a.den, .int .i64 X.b.re, .int .i64 X.b.im, .int .i64 X.b.den, .int .i64 X.c.re, .int .i64 X.c.im, .int .i64 X.c.den, .int .i64 X.d.re, .int .i64 X.d.im, .int .i64 X.d.den] 41))) (w4.heap.size) 0 [.int .i64 c.a.re, .int .i64 c.a.im, .int .i64 c.a.den, .int .i64 c.b.re, .int .i64 c.b.im, .int .i64 c.b.den, .int .i64 c.c.re, .int .i64 c.c.im, .int .i64 c.c.den, .int .i64 c.d.re, .int .i64 c.d.im, .int .i64 c.d.den] from (World.rangeAt_alloc Had.out _)) hb (by first | omega | (simp; done) | (simp <;> omega))
        have Haa : Hid (w10.rangeAt (w5.heap.size) 0 [.int .i64 A.a.re, .int .i64 A.a.im, .int .i64 A.a.den, .int .i64 A.b.re, .int .i64 A.b.im, .int .i64 A.b.den, .int .i64 A.c.re, .int .i64 A.c.im, .int .i64 A.c.den, .int .i64 A.d.re, .int .i64 A.d.im, .int .i64 A.d.den]) := rangeAt_below (show World.rangeAt (World.drew (w9.alloc (.cells #[.int .i64 X.a.re, .int .i64 X.a.im, .int .i64 X.a.den, .int .i64 X.b.re, .int .i64 X.b.im, .int .i64 X.b.den, .int .i64 X.c.re, .int .i64 X.c.im, .int .i64 X.c.den, .int .i64 X.d.re, .int .i64 X.d.im, .int .i64 X.d.den] 41))) (w5.heap.size) 0 [.int .i64 A.a.re, .int .i64 A.a.im, .int .i64 A.a.den, .int .i64 A.b.re, .int .i64 A.b.im, .int .i64 A.b.den, .int .i64 A.c.re, .int .i64 A.c.im, .int .i64 A.c.den, .int .i64 A.d.re, .int .i64 A.d.im, .int .i64 A.d.den] from (World.rangeAt_alloc Haa.out _)) hb (by first | omega | (simp; done) | (simp <;> omega))
        have Hbd : Hid (w10.rangeAt (w6.heap.size) 0 [.int .i64 d.re, .int .i64 d.im, .int .i64 d.den]) := rangeAt_below (show World.rangeAt (World.drew (w9.alloc (.cells #[.int .i64 X.a.re, .int .i64 X.a.im, .int .i64 X.a.den, .int .i64 X.b.re, .int .i64 X.b.im, .int .i64 X.b.den, .int .i64 X.c.re, .int .i64 X.c.im, .int .i64 X.c.den, .int .i64 X.d.re, .int .i64 X.d.im, .int .i64 X.d.den] 41))) (w6.heap.size) 0 [.int .i64 d.re, .int .i64 d.im, .int .i64 d.den] from (World.rangeAt_alloc Hbd.out _)) hb (by first | omega | (simp; done) | (simp <;> omega))
        have Hpw : Hid (w10.rangeAt (w6.heap.size + 1) 0 [.int .i64 1, .int .i64 0, .int .i64 1, .int .i64 0, .int .i64 1, .int .i64 1, .int .i64 (-1), .int .i64 0, .int .i64 1, .int .i64 0, .int .i64 (-1), .int .i64 1]) := rangeAt_below (show World.rangeAt (World.drew (w9.alloc (.cells #[.int .i64 X.a.re, .int .i64 X.a.im, .int .i64 X.a.den, .int .i64 X.b.re, .int .i64 X.b.im, .int .i64 X.b.den, .int .i64 X.c.re, .int .i64 X.c.im, .int .i64 X.c.den, .int .i64 X.d.re, .int .i64 X.d.im, .int .i64 X.d.den] 41))) (w6.heap.size + 1) 0 [.int .i64 1, .int .i64 0, .int .i64 1, .int .i64 0, .int .i64 1, .int .i64 1, .int .i64 (-1), .int .i64 0, .int .i64 1, .int .i64 0, .int .i64 (-1), .int .i64 1] from (World.rangeAt_alloc Hpw.out _)) hb (by first | omega | (simp; done) | (simp <;> omega))
        have Hon : Hid (w10.rangeAt (w7.heap.size) 0 [.int .i64 u.a.re, .int .i64 u.a.im, .int .i64 u.a.den, .int .i64 u.b.re, .int .i64 u.b.im, .int .i64 u.b.den, .int .i64 u.c.re, .int .i64 u.c.im, .int .i64 u.c.den, .int .i64 u.d.re, .int .i64 u.d.im, .int .i64 u.d.den]) := rangeAt_below (show World.rangeAt (World.drew (w9.alloc (.cells #[.int .i64 X.a.re, .int .i64 X.a.im, .int .i64 X.a.den, .int .i64 X.b.re, .int .i64 X.b.im, .int .i64 X.b.den, .int .i64 X.c.re, .int .i64 X.c.im, .int .i64 X.c.den, .int .i64 X.d.re, .int .i64 X.d.im, .int .i64 X.d.den] 41))) (w7.heap.size) 0 [.int .i64 u.a.re, .int .i64 u.a.im, .int .i64 u.a.den, .int .i64 u.b.re, .int .i64 u.b.im, .int .i64 u.b.den, .int .i64 u.c.re, .int .i64 u.c.im, .int .i64 u.c.den, .int .i64 u.d.re, .int .i64 u.d.im, .int .i64 u.d.den] from (World.rangeAt_alloc Hon.out _)) hb (by first | omega | (simp; done) | (simp <;> omega))
        have Hbx : Hid (w10.rangeAt (w8.heap.size) 0 [.int .i64 X.a.re, .int .i64 X.a.im, .int .i64 X.a.den, .int .i64 X.b.re, .int .i64 X.b.im, .int .i64 X.b.den, .int .i64 X.c.re, .int .i64 X.c.im, .int .i64 X.c.den, .int .i64 X.d.re, .int .i64 X.d.im, .int .i64 X.d.den]) := rangeAt_below (show World.rangeAt (World.drew (w9.alloc (.cells #[.int .i64 X.a.re, .int .i64 X.a.im, .int .i64 X.a.den, .int .i64 X.b.re, .int .i64 X.b.im, .int .i64 X.b.den, .int .i64 X.c.re, .int .i64 X.c.im, .int .i64 X.c.den, .int .i64 X.d.re, .int .i64 X.d.im, .int .i64 X.d.den] 41))) (w8.heap.size) 0 [.int .i64 X.a.re, .int .i64 X.a.im, .int .i64 X.a.den, .int .i64 X.b.re, .int .i64 X.b.im, .int .i64 X.b.den, .int .i64 X.c.re, .int .i64 X.c.im, .int .i64 X.c.den, .int .i64 X.d.re, .int .i64 X.d.im, .int .i64 X.d.den] from (World.rangeAt_alloc Hbx.out _)) hb (by first | omega | (simp; done) | (simp <;> omega))
        have Hby : Hid (w10.rangeAt (w9.heap.size) 0 [.int .i64 X.a.re, .int .i64 X.a.im, .int .i64 X.a.den, .int .i64 X.b.re, .int .i64 X.b.im, .int .i64 X.b.den, .int .i64 X.c.re, .int .i64 X.c.im, .int .i64 X.c.den, .int .i64 X.d.re, .int .i64 X.d.im, .int .i64 X.d.den]) := rangeAt_below (show World.rangeAt (World.drew (w9.alloc (.cells #[.int .i64 X.a.re, .int .i64 X.a.im, .int .i64 X.a.den, .int .i64 X.b.re, .int .i64 X.b.im, .int .i64 X.b.den, .int .i64 X.c.re, .int .i64 X.c.im, .int .i64 X.c.den, .int .i64 X.d.re, .int .i64 X.d.im, .int .i64 X.d.den] 41))) (w9.heap.size) 0 [.int .i64 X.a.re, .int .i64 X.a.im, .int .i64 X.a.den, .int .i64 X.b.re, .int .i64 X.b.im, .int .i64 X.b.den, .int .i64 X.c.re, .int .i64 X.c.im, .int .i64 X.c.den, .int .i64 X.d.re, .int .i64 X.d.im, .int .i64 X.d.den] from (rangeAt_new _ _ _)) hb (by first | omega | (simp; done) | (simp <;> omega))
        have hz10 := hb.size
        (try simp at hz10)
        clear hb
        have nA0 : w2.heap.size < w10.heap.size := by omega
        have nB0 : ¬ w2.heap.size = w10.heap.size := by omega
        have nC0 : ¬ w10.heap.size = w2.heap.size := by omega
        have nA1 : w3.heap.size < w10.heap.size := by omega
        have nB1 : ¬ w3.heap.size = w10.heap.size := by omega
        have nC1 : ¬ w10.heap.size = w3.heap.size := by omega
        have nA2 : w4.heap.size < w10.heap.size := by omega
        have nB2 : ¬ w4.heap.size = w10.heap.size := by omega
        have nC2 : ¬ w10.heap.size = w4.heap.size := by omega
        have nA3 : w5.heap.size < w10.heap.size := by omega
        have nB3 : ¬ w5.heap.size = w10.heap.size := by omega
        have nC3 : ¬ w10.heap.size = w5.heap.size := by omega
        have nA4 : w6.heap.size < w10.heap.size := by omega
        have nB4 : ¬ w6.heap.size = w10.heap.size := by omega
        have nC4 : ¬ w10.heap.size = w6.heap.size := by omega
        have nA5 : w6.heap.size + 1 < w10.heap.size := by omega
        have nB5 : ¬ w6.heap.size + 1 = w10.heap.size := by omega
        have nC5 : ¬ w10.heap.size = w6.heap.size + 1 := by omega
        have nA6 : w7.heap.size < w10.heap.size := by omega
        have nB6 : ¬ w7.heap.size = w10.heap.size := by omega
        have nC6 : ¬ w10.heap.size = w7.heap.size := by omega
        have nA7 : w8.heap.size < w10.heap.size := by omega
        have nB7 : ¬ w8.heap.size = w10.heap.size := by omega
        have nC7 : ¬ w10.heap.size = w8.heap.size := by omega
        have nA8 : w9.heap.size < w10.heap.size := by omega
        have nB8 : ¬ w9.heap.size = w10.heap.size := by omega
        have nC8 : ¬ w10.heap.size = w9.heap.size := by omega
        refine hK.out _ _ (show _ from ⟨(cellsM Ho.out), (cellsM Hbx.out), (cellsM Hby.out)⟩) (fun hHeld => ?_)
        clear hK K
        (try simp only [Act.put, List.getElem_toArray, List.getElem_cons_succ, List.getElem_cons_zero, List.setIfInBounds_toArray, List.set_cons_zero, List.set_cons_succ])
        refine wpAnyH_take (i := 7) (v := ?_) rfl (by kernel_rfl) (by kernel_rfl) (by kernel_rfl) (fun _ _ _ h => h) (Or.inl ⟨by rfl, ?_⟩) (by assumption) ?_
        rotate_left
        (focus (intro w hSw; (try dsimp only at hSw); go_simp; (try with_reducible rfl)))
        (try simp only [Act.put, List.getElem_toArray, List.getElem_cons_succ, List.getElem_cons_zero, List.setIfInBounds_toArray, List.set_cons_zero, List.set_cons_succ])
        refine wpAnyH_take (i := 8) (v := ?_) rfl (by kernel_rfl) (by kernel_rfl) (by kernel_rfl) (fun _ _ _ h => h) (Or.inl ⟨by rfl, ?_⟩) (by assumption) ?_
        rotate_left
        (focus (intro w hSw; (try dsimp only at hSw); go_simp; (try with_reducible rfl)))
        (try simp only [Act.put, List.getElem_toArray, List.getElem_cons_succ, List.getElem_cons_zero, List.setIfInBounds_toArray, List.set_cons_zero, List.set_cons_succ])
        refine wpAnyH_take (i := 9) (v := ?_) rfl (by kernel_rfl) (by kernel_rfl) (by kernel_rfl) (fun _ _ _ h => h) (Or.inl ⟨by rfl, ?_⟩) (by assumption) ?_
        rotate_left
        (focus (intro w hSw; (try dsimp only at hSw); go_simp; (try with_reducible rfl)))
        (try simp only [Act.put, List.getElem_toArray, List.getElem_cons_succ, List.getElem_cons_zero, List.setIfInBounds_toArray, List.set_cons_zero, List.set_cons_succ])
        refine wpAnyH_take (i := 10) (v := ?_) rfl (by kernel_rfl) (by kernel_rfl) (by kernel_rfl) (fun _ _ _ h => h) (Or.inl ⟨by rfl, ?_⟩) (by assumption) ?_
        rotate_left
        (focus (intro w hSw; (try dsimp only at hSw); go_simp; (try with_reducible rfl)))
        (try simp only [Act.put, List.getElem_toArray, List.getElem_cons_succ, List.getElem_cons_zero, List.setIfInBounds_toArray, List.set_cons_zero, List.set_cons_succ])
        refine wpAnyH_take (i := 11) (v := ?_) rfl (by kernel_rfl) (by kernel_rfl) (by kernel_rfl) (fun _ _ _ h => h) (Or.inl ⟨by rfl, ?_⟩) (by assumption) ?_
        rotate_left
        (focus (intro w hSw; (try dsimp only at hSw); go_simp; (try with_reducible rfl)))
        (try simp only [Act.put, List.getElem_toArray, List.getElem_cons_succ, List.getElem_cons_zero, List.setIfInBounds_toArray, List.set_cons_zero, List.set_cons_succ])
        refine wpAnyH_take (i := 12) (v := ?_) rfl (by kernel_rfl) (by kernel_rfl) (by kernel_rfl) (fun _ _ _ h => h) (Or.inl ⟨by rfl, ?_⟩) (by assumption) ?_
        rotate_left
        (focus (intro w hSw; (try dsimp only at hSw); go_simp; (try with_reducible rfl)))
        (try simp only [Act.put, List.getElem_toArray, List.getElem_cons_succ, List.getElem_cons_zero, List.setIfInBounds_toArray, List.set_cons_zero, List.set_cons_succ])
        refine wpAnyH_take (i := 13) rfl (by kernel_rfl) (by kernel_rfl) (by kernel_rfl) (fun _ _ _ h => h) (Or.inr ⟨by rfl, rfl⟩) (by assumption) ?_
        (try simp only [Act.put, List.getElem_toArray, List.getElem_cons_succ, List.getElem_cons_zero, List.setIfInBounds_toArray, List.set_cons_zero, List.set_cons_succ])
        refine wpAnyH_take (i := 14) rfl (by kernel_rfl) (by kernel_rfl) (by kernel_rfl) (fun _ _ _ h => h) (Or.inr ⟨by rfl, rfl⟩) (by assumption) ?_
        (try simp only [Act.put, List.getElem_toArray, List.getElem_cons_succ, List.getElem_cons_zero, List.setIfInBounds_toArray, List.set_cons_zero, List.set_cons_succ])
        refine wpAnyH_take (i := 15) rfl (by kernel_rfl) (by kernel_rfl) (by kernel_rfl) (fun _ _ _ h => h) (Or.inr ⟨by rfl, rfl⟩) (by assumption) ?_
        (try simp only [Act.put, List.getElem_toArray, List.getElem_cons_succ, List.getElem_cons_zero, List.setIfInBounds_toArray, List.set_cons_zero, List.set_cons_succ])
        refine wpAnyH_take (i := 16) rfl (by kernel_rfl) (by kernel_rfl) (by kernel_rfl) (fun _ _ _ h => h) (Or.inr ⟨by rfl, rfl⟩) (by assumption) ?_
        (try simp only [Act.put, List.getElem_toArray, List.getElem_cons_succ, List.getElem_cons_zero, List.setIfInBounds_toArray, List.set_cons_zero, List.set_cons_succ])
        refine wpAnyH_take (i := 17) rfl (by kernel_rfl) (by kernel_rfl) (by kernel_rfl) (fun _ _ _ h => h) (Or.inr ⟨by rfl, rfl⟩) (by assumption) ?_
        (try simp only [Act.put, List.getElem_toArray, List.getElem_cons_succ, List.getElem_cons_zero, List.setIfInBounds_toArray, List.set_cons_zero, List.set_cons_succ])
        refine wpAnyH_take (i := 18) rfl (by kernel_rfl) (by kernel_rfl) (by kernel_rfl) (fun _ _ _ h => h) (Or.inr ⟨by rfl, rfl⟩) (by assumption) ?_
        (try simp only [Act.put, List.getElem_toArray, List.getElem_cons_succ, List.getElem_cons_zero, List.setIfInBounds_toArray, List.set_cons_zero, List.set_cons_succ])
        refine wpAnyH_take (i := 19) (v := ?_) rfl (by kernel_rfl) (by kernel_rfl) (by kernel_rfl) (fun _ _ _ h => h) (Or.inl ⟨by rfl, ?_⟩) (by assumption) ?_
        rotate_left
        (focus (intro w hSw; (try dsimp only at hSw); go_simp; (try with_reducible rfl)))
        (try simp only [Act.put, List.getElem_toArray, List.getElem_cons_succ, List.getElem_cons_zero, List.setIfInBounds_toArray, List.set_cons_zero, List.set_cons_succ])
        refine wpAnyH_take (i := 20) (v := ?_) rfl (by kernel_rfl) (by kernel_rfl) (by kernel_rfl) (fun _ _ _ h => h) (Or.inl ⟨by rfl, ?_⟩) (by assumption) ?_
        rotate_left
        (focus (intro w hSw; (try dsimp only at hSw); go_simp; (try with_reducible rfl)))
        (try simp only [Act.put, List.getElem_toArray, List.getElem_cons_succ, List.getElem_cons_zero, List.setIfInBounds_toArray, List.set_cons_zero, List.set_cons_succ])
        refine wpAnyH_take (i := 21) (v := ?_) rfl (by kernel_rfl) (by kernel_rfl) (by kernel_rfl) (fun _ _ _ h => h) (Or.inl ⟨by rfl, ?_⟩) (by assumption) ?_
        rotate_left
        (focus (intro w hSw; (try dsimp only at hSw); go_simp; (try with_reducible rfl)))
        (try simp only [Act.put, List.getElem_toArray, List.getElem_cons_succ, List.getElem_cons_zero, List.setIfInBounds_toArray, List.set_cons_zero, List.set_cons_succ])
        refine wpAnyH_take (i := 22) (v := ?_) rfl (by kernel_rfl) (by kernel_rfl) (by kernel_rfl) (fun _ _ _ h => h) (Or.inl ⟨by rfl, ?_⟩) (by assumption) ?_
        rotate_left
        (focus (intro w hSw; (try dsimp only at hSw); go_simp; (try with_reducible rfl)))
        (try simp only [Act.put, List.getElem_toArray, List.getElem_cons_succ, List.getElem_cons_zero, List.setIfInBounds_toArray, List.set_cons_zero, List.set_cons_succ])
        refine wpAnyH_take (i := 23) (v := ?_) rfl (by kernel_rfl) (by kernel_rfl) (by kernel_rfl) (fun _ _ _ h => h) (Or.inl ⟨by rfl, ?_⟩) (by assumption) ?_
        rotate_left
        (focus (intro w hSw; (try dsimp only at hSw); go_simp; (try with_reducible rfl)))
        (try simp only [Act.put, List.getElem_toArray, List.getElem_cons_succ, List.getElem_cons_zero, List.setIfInBounds_toArray, List.set_cons_zero, List.set_cons_succ])
        refine wpAnyH_take (i := 24) (v := ?_) rfl (by kernel_rfl) (by kernel_rfl) (by kernel_rfl) (fun _ _ _ h => h) (Or.inl ⟨by rfl, ?_⟩) (by assumption) ?_
        rotate_left
        (focus (intro w hSw; (try dsimp only at hSw); go_simp; (try with_reducible rfl)))
        (try simp only [Act.put, List.getElem_toArray, List.getElem_cons_succ, List.getElem_cons_zero, List.setIfInBounds_toArray, List.set_cons_zero, List.set_cons_succ])
        refine wpAnyH_take (i := 25) (v := ?_) rfl (by kernel_rfl) (by kernel_rfl) (by kernel_rfl) (fun _ _ _ h => h) (Or.inl ⟨by rfl, ?_⟩) (by assumption) ?_
        rotate_left
        (focus (intro w hSw; (try dsimp only at hSw); go_simp; (try with_reducible rfl)))
        (try simp only [Act.put, List.getElem_toArray, List.getElem_cons_succ, List.getElem_cons_zero, List.setIfInBounds_toArray, List.set_cons_zero, List.set_cons_succ])
        refine wpAnyH_take (i := 26) (v := ?_) rfl (by kernel_rfl) (by kernel_rfl) (by kernel_rfl) (fun _ _ _ h => h) (Or.inl ⟨by rfl, ?_⟩) (by assumption) ?_
        rotate_left
        (focus (intro w hSw; (try dsimp only at hSw); go_simp; (try with_reducible rfl)))
        (try simp only [Act.put, List.getElem_toArray, List.getElem_cons_succ, List.getElem_cons_zero, List.setIfInBounds_toArray, List.set_cons_zero, List.set_cons_succ])
        refine wpAnyH_take (i := 27) (v := ?_) rfl (by kernel_rfl) (by kernel_rfl) (by kernel_rfl) (fun _ _ _ h => h) (Or.inl ⟨by rfl, ?_⟩) (by assumption) ?_
        rotate_left
        (focus (intro w hSw; (try dsimp only at hSw); go_simp; (try with_reducible rfl)))
        (try simp only [Act.put, List.getElem_toArray, List.getElem_cons_succ, List.getElem_cons_zero, List.setIfInBounds_toArray, List.set_cons_zero, List.set_cons_succ])
        refine wpAnyH_take (i := 28) (v := ?_) rfl (by kernel_rfl) (by kernel_rfl) (by kernel_rfl) (fun _ _ _ h => h) (Or.inl ⟨by rfl, ?_⟩) (by assumption) ?_
        rotate_left
        (focus (intro w hSw; (try dsimp only at hSw); go_simp; (try with_reducible rfl)))
        (try simp only [Act.put, List.getElem_toArray, List.getElem_cons_succ, List.getElem_cons_zero, List.setIfInBounds_toArray, List.set_cons_zero, List.set_cons_succ])
        refine wpAnyH_take (i := 29) (v := ?_) rfl (by kernel_rfl) (by kernel_rfl) (by kernel_rfl) (fun _ _ _ h => h) (Or.inl ⟨by rfl, ?_⟩) (by assumption) ?_
        rotate_left
        (focus (intro w hSw; (try dsimp only at hSw); go_simp; (try with_reducible rfl)))
        (try simp only [Act.put, List.getElem_toArray, List.getElem_cons_succ, List.getElem_cons_zero, List.setIfInBounds_toArray, List.set_cons_zero, List.set_cons_succ])
        refine wpAnyH_take (i := 30) (v := ?_) rfl (by kernel_rfl) (by kernel_rfl) (by kernel_rfl) (fun _ _ _ h => h) (Or.inl ⟨by rfl, ?_⟩) (by assumption) ?_
        rotate_left
        (focus (intro w hSw; (try dsimp only at hSw); go_simp; (try with_reducible rfl)))
        (try simp only [Act.put, List.getElem_toArray, List.getElem_cons_succ, List.getElem_cons_zero, List.setIfInBounds_toArray, List.set_cons_zero, List.set_cons_succ])
        refine wpAnyH_take (i := 31) (v := ?_) rfl (by kernel_rfl) (by kernel_rfl) (by kernel_rfl) (fun _ _ _ h => h) (Or.inl ⟨by rfl, ?_⟩) (by assumption) ?_
        rotate_left
        (focus (intro w hSw; (try dsimp only at hSw); go_simp; (try with_reducible rfl)))
        (try simp only [Act.put, List.getElem_toArray, List.getElem_cons_succ, List.getElem_cons_zero, List.setIfInBounds_toArray, List.set_cons_zero, List.set_cons_succ])
        refine wpAnyH_take (i := 32) (v := ?_) rfl (by kernel_rfl) (by kernel_rfl) (by kernel_rfl) (fun _ _ _ h => h) (Or.inl ⟨by rfl, ?_⟩) (by assumption) ?_
        rotate_left
        (focus (intro w hSw; (try dsimp only at hSw); go_simp; (try with_reducible rfl)))
        (try simp only [Act.put, List.getElem_toArray, List.getElem_cons_succ, List.getElem_cons_zero, List.setIfInBounds_toArray, List.set_cons_zero, List.set_cons_succ])
        refine wpAnyH_take (i := 33) (v := ?_) rfl (by kernel_rfl) (by kernel_rfl) (by kernel_rfl) (fun _ _ _ h => h) (Or.inl ⟨by rfl, ?_⟩) (by assumption) ?_
        rotate_left
        (focus (intro w hSw; (try dsimp only at hSw); go_simp; (try with_reducible rfl)))
        (try simp only [Act.put, List.getElem_toArray, List.getElem_cons_succ, List.getElem_cons_zero, List.setIfInBounds_toArray, List.set_cons_zero, List.set_cons_succ])
        refine wpAnyH_take (i := 34) (v := ?_) rfl (by kernel_rfl) (by kernel_rfl) (by kernel_rfl) (fun _ _ _ h => h) (Or.inl ⟨by rfl, ?_⟩) (by assumption) ?_
        rotate_left
        (focus (intro w hSw; (try dsimp only at hSw); go_simp; (try with_reducible rfl)))
        (try simp only [Act.put, List.getElem_toArray, List.getElem_cons_succ, List.getElem_cons_zero, List.setIfInBounds_toArray, List.set_cons_zero, List.set_cons_succ])
        refine wpAnyH_take (i := 35) (v := ?_) rfl (by kernel_rfl) (by kernel_rfl) (by kernel_rfl) (fun _ _ _ h => h) (Or.inl ⟨by rfl, ?_⟩) (by assumption) ?_
        rotate_left
        (focus (intro w hSw; (try dsimp only at hSw); go_simp; (try with_reducible rfl)))
        (try simp only [Act.put, List.getElem_toArray, List.getElem_cons_succ, List.getElem_cons_zero, List.setIfInBounds_toArray, List.set_cons_zero, List.set_cons_succ])
        refine wpAnyH_take (i := 36) (v := ?_) rfl (by kernel_rfl) (by kernel_rfl) (by kernel_rfl) (fun _ _ _ h => h) (Or.inl ⟨by rfl, ?_⟩) (by assumption) ?_
        rotate_left
        (focus (intro w hSw; (try dsimp only at hSw); go_simp; (try with_reducible rfl)))
        (try simp only [Act.put, List.getElem_toArray, List.getElem_cons_succ, List.getElem_cons_zero, List.setIfInBounds_toArray, List.set_cons_zero, List.set_cons_succ])
        refine wpAnyH_done (by kernel_rfl) ?_ _
        clear hHeld
        go_wp2_with fail
        go_ret
        exact ⟨rfl, (by (repeat' first | (with_reducible exact HB.out) | with_reducible refine setCells_below _ _ _ ?_ (by first | omega | (simp <;> omega)) | with_reducible refine Below.setCell ?_ (by show _ ≤ _; first | omega | (simp <;> omega) | simp) _ | with_reducible refine Below.alloc ?_ (by first | omega | (simp <;> omega)) _ | with_reducible apply Below.drew | with_reducible refine below_drewN ?_ _))⟩
      · skip
        obtain rfl : d = ⟨F, G, 1⟩ := HW2.out rfl
        have hEd : ∀ w, (Op.equalIn 10000 23 (.agg #[.int .i64 F, .int .i64 G, .int .i64 1]) (.agg #[.int .i64 F, .int .i64 G, .int .i64 1])).run Tryd.prog w = .ok true w := fun w => by have := eqFr_run ⟨F, G, 1⟩ ⟨F, G, 1⟩ 9998 w; rw [frB_iff.2 rfl] at this; exact this
        have hlos : gLos m = true := HW1.out rfl
        clear HW1 HW2 HW3
        go_wp2_with fail
        refine wp_region_held_drew (S := (fun w' => (w'.cell? ⟨w2.heap.size, 0, none⟩ = some (.int .i64 m.a.re) ∧ w'.cell? ⟨w2.heap.size, 1, none⟩ = some (.int .i64 m.a.im) ∧ w'.cell? ⟨w2.heap.size, 2, none⟩ = some (.int .i64 m.a.den) ∧ w'.cell? ⟨w2.heap.size, 3, none⟩ = some (.int .i64 m.b.re) ∧ w'.cell? ⟨w2.heap.size, 4, none⟩ = some (.int .i64 m.b.im) ∧ w'.cell? ⟨w2.heap.size, 5, none⟩ = some (.int .i64 m.b.den) ∧ w'.cell? ⟨w2.heap.size, 6, none⟩ = some (.int .i64 m.c.re) ∧ w'.cell? ⟨w2.heap.size, 7, none⟩ = some (.int .i64 m.c.im) ∧ w'.cell? ⟨w2.heap.size, 8, none⟩ = some (.int .i64 m.c.den) ∧ w'.cell? ⟨w2.heap.size, 9, none⟩ = some (.int .i64 m.d.re) ∧ w'.cell? ⟨w2.heap.size, 10, none⟩ = some (.int .i64 m.d.im) ∧ w'.cell? ⟨w2.heap.size, 11, none⟩ = some (.int .i64 m.d.den)) ∧ (w'.cell? ⟨w6.heap.size, 0, none⟩ = some (.int .i64 F) ∧ w'.cell? ⟨w6.heap.size, 1, none⟩ = some (.int .i64 G) ∧ w'.cell? ⟨w6.heap.size, 2, none⟩ = some (.int .i64 1)) ∧ (w'.cell? ⟨w6.heap.size + 1, n * 3, none⟩ = some (.int .i64 F) ∧ w'.cell? ⟨w6.heap.size + 1, n * 3 + 1, none⟩ = some (.int .i64 G) ∧ w'.cell? ⟨w6.heap.size + 1, n * 3 + 2, none⟩ = some (.int .i64 1)))) (by kernel_rfl) (show _ from ⟨(cellsM (show World.rangeAt (World.drew (w9.alloc (.cells #[.int .i64 y.a.re, .int .i64 y.a.im, .int .i64 y.a.den, .int .i64 y.b.re, .int .i64 y.b.im, .int .i64 y.b.den, .int .i64 y.c.re, .int .i64 y.c.im, .int .i64 y.c.den, .int .i64 y.d.re, .int .i64 y.d.im, .int .i64 y.d.den] 41))) (w2.heap.size) 0 [.int .i64 m.a.re, .int .i64 m.a.im, .int .i64 m.a.den, .int .i64 m.b.re, .int .i64 m.b.im, .int .i64 m.b.den, .int .i64 m.c.re, .int .i64 m.c.im, .int .i64 m.c.den, .int .i64 m.d.re, .int .i64 m.d.im, .int .i64 m.d.den] from (World.rangeAt_alloc Ho.out _))), (cellsF (show World.rangeAt (World.drew (w9.alloc (.cells #[.int .i64 y.a.re, .int .i64 y.a.im, .int .i64 y.a.den, .int .i64 y.b.re, .int .i64 y.b.im, .int .i64 y.b.den, .int .i64 y.c.re, .int .i64 y.c.im, .int .i64 y.c.den, .int .i64 y.d.re, .int .i64 y.d.im, .int .i64 y.d.den] 41))) (w6.heap.size) 0 [.int .i64 F, .int .i64 G, .int .i64 1] from (World.rangeAt_alloc Hbd.out _))), (HPW.out _ _ (show World.rangeAt (World.drew (w9.alloc (.cells #[.int .i64 y.a.re, .int .i64 y.a.im, .int .i64 y.a.den, .int .i64 y.b.re, .int .i64 y.b.im, .int .i64 y.b.den, .int .i64 y.c.re, .int .i64 y.c.im, .int .i64 y.c.den, .int .i64 y.d.re, .int .i64 y.d.im, .int .i64 y.d.den] 41))) (w6.heap.size + 1) 0 [.int .i64 1, .int .i64 0, .int .i64 1, .int .i64 0, .int .i64 1, .int .i64 1, .int .i64 (-1), .int .i64 0, .int .i64 1, .int .i64 0, .int .i64 (-1), .int .i64 1] from (World.rangeAt_alloc Hpw.out _)))⟩) (fun hHeld => ?_)
        refine wpAnyH_take (i := 0) (v := ?_) rfl (by kernel_rfl) (by kernel_rfl) (by kernel_rfl) (fun _ _ _ h => h) (Or.inl ⟨by rfl, ?_⟩) (by assumption) ?_
        rotate_left
        (focus (intro w hSw; (try dsimp only at hSw); go_simp; (try with_reducible rfl)))
        (try simp only [Act.put, List.getElem_toArray, List.getElem_cons_zero, List.setIfInBounds_toArray, List.set_cons_zero, List.set_cons_succ])
        refine wpAnyH_take (i := 1) (v := ?_) rfl (by kernel_rfl) (by kernel_rfl) (by kernel_rfl) (fun _ _ _ h => h) (Or.inl ⟨by rfl, ?_⟩) (by assumption) ?_
        rotate_left
        (focus (intro w hSw; (try dsimp only at hSw); go_simp; (try with_reducible rfl)))
        (try simp only [Act.put, List.getElem_toArray, List.getElem_cons_succ, List.getElem_cons_zero, List.setIfInBounds_toArray, List.set_cons_zero, List.set_cons_succ])
        refine wpAnyH_take (i := 2) (v := ?_) rfl (by kernel_rfl) (by kernel_rfl) (by kernel_rfl) (fun _ _ _ h => h) (Or.inl ⟨by rfl, ?_⟩) (by assumption) ?_
        rotate_left
        (focus (intro w hSw; (try dsimp only at hSw); go_simp; (try with_reducible rfl)))
        (try simp only [Act.put, List.getElem_toArray, List.getElem_cons_succ, List.getElem_cons_zero, List.setIfInBounds_toArray, List.set_cons_zero, List.set_cons_succ])
        refine wpAnyH_take (i := 3) (v := ?_) rfl (by kernel_rfl) (by kernel_rfl) (by kernel_rfl) (fun _ _ _ h => h) (Or.inl ⟨by rfl, ?_⟩) (by assumption) ?_
        rotate_left
        (focus (intro w hSw; (try dsimp only at hSw); go_simp; (try with_reducible rfl)))
        (try simp only [Act.put, List.getElem_toArray, List.getElem_cons_succ, List.getElem_cons_zero, List.setIfInBounds_toArray, List.set_cons_zero, List.set_cons_succ])
        refine wpAnyH_take (i := 4) (v := ?_) rfl (by kernel_rfl) (by kernel_rfl) (by kernel_rfl) (fun _ _ _ h => h) (Or.inl ⟨by rfl, ?_⟩) (by assumption) ?_
        rotate_left
        (focus (intro w hSw; (try dsimp only at hSw); go_simp; (try with_reducible rfl)))
        (try simp only [Act.put, List.getElem_toArray, List.getElem_cons_succ, List.getElem_cons_zero, List.setIfInBounds_toArray, List.set_cons_zero, List.set_cons_succ])
        refine wpAnyH_take (i := 5) (v := ?_) rfl (by kernel_rfl) (by kernel_rfl) (by kernel_rfl) (fun _ _ _ h => h) (Or.inl ⟨by rfl, ?_⟩) (by assumption) ?_
        rotate_left
        (focus (intro w hSw; (try dsimp only at hSw); go_simp; (try with_reducible rfl)))
        (try simp only [Act.put, List.getElem_toArray, List.getElem_cons_succ, List.getElem_cons_zero, List.setIfInBounds_toArray, List.set_cons_zero, List.set_cons_succ])
        refine wpAnyH_ready (rs := [6]) (by kernel_rfl) (by simp) ?_
        refine AllReadyH.cons rfl (fun K hK => ?_) AllReadyH.nil
        go_simp
        go_at_call 55
        (with_reducible refine (ilos_any m _ (HG_same.out.below (Below.drew (Below.alloc HB.out (by first | omega | (simp; done) | (simp <;> omega)) _)))).mono ?_)
        rintro e w10 ho
        rw [hlos] at ho
        obtain ⟨rfl, hb⟩ : e = .returned (.bool true) ∧ Below _ _ _ := (id ho)
        clear ho
        have HB := Lib.hid (show Below w.heap.size w w10 from HB.out.trans ((show Below _ _ _ from (((Below.refl _ _).alloc (by first | omega | (simp; done) | (simp <;> omega)) _).drew)).trans (hb.mono (by first | omega | (simp <;> omega)))))
        have Ho : Hid (w10.rangeAt (w2.heap.size) 0 [.int .i64 m.a.re, .int .i64 m.a.im, .int .i64 m.a.den, .int .i64 m.b.re, .int .i64 m.b.im, .int .i64 m.b.den, .int .i64 m.c.re, .int .i64 m.c.im, .int .i64 m.c.den, .int .i64 m.d.re, .int .i64 m.d.im, .int .i64 m.d.den]) := rangeAt_below (show World.rangeAt (World.drew (w9.alloc (.cells #[.int .i64 y.a.re, .int .i64 y.a.im, .int .i64 y.a.den, .int .i64 y.b.re, .int .i64 y.b.im, .int .i64 y.b.den, .int .i64 y.c.re, .int .i64 y.c.im, .int .i64 y.c.den, .int .i64 y.d.re, .int .i64 y.d.im, .int .i64 y.d.den] 41))) (w2.heap.size) 0 [.int .i64 m.a.re, .int .i64 m.a.im, .int .i64 m.a.den, .int .i64 m.b.re, .int .i64 m.b.im, .int .i64 m.b.den, .int .i64 m.c.re, .int .i64 m.c.im, .int .i64 m.c.den, .int .i64 m.d.re, .int .i64 m.d.im, .int .i64 m.d.den] from (World.rangeAt_alloc Ho.out _)) hb (by first | omega | (simp; done) | (simp <;> omega))
        have Hqq : Hid (w10.rangeAt (w3.heap.size) 0 [.int .i64 m.a.re, .int .i64 m.a.im, .int .i64 m.a.den, .int .i64 m.b.re, .int .i64 m.b.im, .int .i64 m.b.den, .int .i64 m.c.re, .int .i64 m.c.im, .int .i64 m.c.den, .int .i64 m.d.re, .int .i64 m.d.im, .int .i64 m.d.den]) := rangeAt_below (show World.rangeAt (World.drew (w9.alloc (.cells #[.int .i64 y.a.re, .int .i64 y.a.im, .int .i64 y.a.den, .int .i64 y.b.re, .int .i64 y.b.im, .int .i64 y.b.den, .int .i64 y.c.re, .int .i64 y.c.im, .int .i64 y.c.den, .int .i64 y.d.re, .int .i64 y.d.im, .int .i64 y.d.den] 41))) (w3.heap.size) 0 [.int .i64 m.a.re, .int .i64 m.a.im, .int .i64 m.a.den, .int .i64 m.b.re, .int .i64 m.b.im, .int .i64 m.b.den, .int .i64 m.c.re, .int .i64 m.c.im, .int .i64 m.c.den, .int .i64 m.d.re, .int .i64 m.d.im, .int .i64 m.d.den] from (World.rangeAt_alloc Hqq.out _)) hb (by first | omega | (simp; done) | (simp <;> omega))
        have Had : Hid (w10.rangeAt (w4.heap.size) 0 [.int .i64 c.a.re, .int .i64 c.a.im, .int .i64 c.a.den, .int .i64 c.b.re, .int .i64 c.b.im, .int .i64 c.b.den, .int .i64 c.c.re, .int .i64 c.c.im, .int .i64 c.c.den, .int .i64 c.d.re, .int .i64 c.d.im, .int .i64 c.d.den]) := rangeAt_below (show World.rangeAt (World.drew (w9.alloc (.cells #[.int .i64 y.a.re, .int .i64 y.a.im, .int .i64 y.a.den, .int .i64 y.b.re, .int .i64 y.b.im, .int .i64 y.b.den, .int .i64 y.c.re, .int .i64 y.c.im, .int .i64 y.c.den, .int .i64 y.d.re, .int .i64 y.d.im, .int .i64 y.d.den] 41))) (w4.heap.size) 0 [.int .i64 c.a.re, .int .i64 c.a.im, .int .i64 c.a.den, .int .i64 c.b.re, .int .i64 c.b.im, .int .i64 c.b.den, .int .i64 c.c.re, .int .i64 c.c.im, .int .i64 c.c.den, .int .i64 c.d.re, .int .i64 c.d.im, .int .i64 c.d.den] from (World.rangeAt_alloc Had.out _)) hb (by first | omega | (simp; done) | (simp <;> omega))
        have Haa : Hid (w10.rangeAt (w5.heap.size) 0 [.int .i64 A.a.re, .int .i64 A.a.im, .int .i64 A.a.den, .int .i64 A.b.re, .int .i64 A.b.im, .int .i64 A.b.den, .int .i64 A.c.re, .int .i64 A.c.im, .int .i64 A.c.den, .int .i64 A.d.re, .int .i64 A.d.im, .int .i64 A.d.den]) := rangeAt_below (show World.rangeAt (World.drew (w9.alloc (.cells #[.int .i64 y.a.re, .int .i64 y.a.im, .int .i64 y.a.den, .int .i64 y.b.re, .int .i64 y.b.im, .int .i64 y.b.den, .int .i64 y.c.re, .int .i64 y.c.im, .int .i64 y.c.den, .int .i64 y.d.re, .int .i64 y.d.im, .int .i64 y.d.den] 41))) (w5.heap.size) 0 [.int .i64 A.a.re, .int .i64 A.a.im, .int .i64 A.a.den, .int .i64 A.b.re, .int .i64 A.b.im, .int .i64 A.b.den, .int .i64 A.c.re, .int .i64 A.c.im, .int .i64 A.c.den, .int .i64 A.d.re, .int .i64 A.d.im, .int .i64 A.d.den] from (World.rangeAt_alloc Haa.out _)) hb (by first | omega | (simp; done) | (simp <;> omega))
        have Hbd : Hid (w10.rangeAt (w6.heap.size) 0 [.int .i64 F, .int .i64 G, .int .i64 1]) := rangeAt_below (show World.rangeAt (World.drew (w9.alloc (.cells #[.int .i64 y.a.re, .int .i64 y.a.im, .int .i64 y.a.den, .int .i64 y.b.re, .int .i64 y.b.im, .int .i64 y.b.den, .int .i64 y.c.re, .int .i64 y.c.im, .int .i64 y.c.den, .int .i64 y.d.re, .int .i64 y.d.im, .int .i64 y.d.den] 41))) (w6.heap.size) 0 [.int .i64 F, .int .i64 G, .int .i64 1] from (World.rangeAt_alloc Hbd.out _)) hb (by first | omega | (simp; done) | (simp <;> omega))
        have Hpw : Hid (w10.rangeAt (w6.heap.size + 1) 0 [.int .i64 1, .int .i64 0, .int .i64 1, .int .i64 0, .int .i64 1, .int .i64 1, .int .i64 (-1), .int .i64 0, .int .i64 1, .int .i64 0, .int .i64 (-1), .int .i64 1]) := rangeAt_below (show World.rangeAt (World.drew (w9.alloc (.cells #[.int .i64 y.a.re, .int .i64 y.a.im, .int .i64 y.a.den, .int .i64 y.b.re, .int .i64 y.b.im, .int .i64 y.b.den, .int .i64 y.c.re, .int .i64 y.c.im, .int .i64 y.c.den, .int .i64 y.d.re, .int .i64 y.d.im, .int .i64 y.d.den] 41))) (w6.heap.size + 1) 0 [.int .i64 1, .int .i64 0, .int .i64 1, .int .i64 0, .int .i64 1, .int .i64 1, .int .i64 (-1), .int .i64 0, .int .i64 1, .int .i64 0, .int .i64 (-1), .int .i64 1] from (World.rangeAt_alloc Hpw.out _)) hb (by first | omega | (simp; done) | (simp <;> omega))
        have Hon : Hid (w10.rangeAt (w7.heap.size) 0 [.int .i64 u.a.re, .int .i64 u.a.im, .int .i64 u.a.den, .int .i64 u.b.re, .int .i64 u.b.im, .int .i64 u.b.den, .int .i64 u.c.re, .int .i64 u.c.im, .int .i64 u.c.den, .int .i64 u.d.re, .int .i64 u.d.im, .int .i64 u.d.den]) := rangeAt_below (show World.rangeAt (World.drew (w9.alloc (.cells #[.int .i64 y.a.re, .int .i64 y.a.im, .int .i64 y.a.den, .int .i64 y.b.re, .int .i64 y.b.im, .int .i64 y.b.den, .int .i64 y.c.re, .int .i64 y.c.im, .int .i64 y.c.den, .int .i64 y.d.re, .int .i64 y.d.im, .int .i64 y.d.den] 41))) (w7.heap.size) 0 [.int .i64 u.a.re, .int .i64 u.a.im, .int .i64 u.a.den, .int .i64 u.b.re, .int .i64 u.b.im, .int .i64 u.b.den, .int .i64 u.c.re, .int .i64 u.c.im, .int .i64 u.c.den, .int .i64 u.d.re, .int .i64 u.d.im, .int .i64 u.d.den] from (World.rangeAt_alloc Hon.out _)) hb (by first | omega | (simp; done) | (simp <;> omega))
        have Hbx : Hid (w10.rangeAt (w8.heap.size) 0 [.int .i64 X.a.re, .int .i64 X.a.im, .int .i64 X.a.den, .int .i64 X.b.re, .int .i64 X.b.im, .int .i64 X.b.den, .int .i64 X.c.re, .int .i64 X.c.im, .int .i64 X.c.den, .int .i64 X.d.re, .int .i64 X.d.im, .int .i64 X.d.den]) := rangeAt_below (show World.rangeAt (World.drew (w9.alloc (.cells #[.int .i64 y.a.re, .int .i64 y.a.im, .int .i64 y.a.den, .int .i64 y.b.re, .int .i64 y.b.im, .int .i64 y.b.den, .int .i64 y.c.re, .int .i64 y.c.im, .int .i64 y.c.den, .int .i64 y.d.re, .int .i64 y.d.im, .int .i64 y.d.den] 41))) (w8.heap.size) 0 [.int .i64 X.a.re, .int .i64 X.a.im, .int .i64 X.a.den, .int .i64 X.b.re, .int .i64 X.b.im, .int .i64 X.b.den, .int .i64 X.c.re, .int .i64 X.c.im, .int .i64 X.c.den, .int .i64 X.d.re, .int .i64 X.d.im, .int .i64 X.d.den] from (World.rangeAt_alloc Hbx.out _)) hb (by first | omega | (simp; done) | (simp <;> omega))
        have Hby : Hid (w10.rangeAt (w9.heap.size) 0 [.int .i64 y.a.re, .int .i64 y.a.im, .int .i64 y.a.den, .int .i64 y.b.re, .int .i64 y.b.im, .int .i64 y.b.den, .int .i64 y.c.re, .int .i64 y.c.im, .int .i64 y.c.den, .int .i64 y.d.re, .int .i64 y.d.im, .int .i64 y.d.den]) := rangeAt_below (show World.rangeAt (World.drew (w9.alloc (.cells #[.int .i64 y.a.re, .int .i64 y.a.im, .int .i64 y.a.den, .int .i64 y.b.re, .int .i64 y.b.im, .int .i64 y.b.den, .int .i64 y.c.re, .int .i64 y.c.im, .int .i64 y.c.den, .int .i64 y.d.re, .int .i64 y.d.im, .int .i64 y.d.den] 41))) (w9.heap.size) 0 [.int .i64 y.a.re, .int .i64 y.a.im, .int .i64 y.a.den, .int .i64 y.b.re, .int .i64 y.b.im, .int .i64 y.b.den, .int .i64 y.c.re, .int .i64 y.c.im, .int .i64 y.c.den, .int .i64 y.d.re, .int .i64 y.d.im, .int .i64 y.d.den] from (rangeAt_new _ _ _)) hb (by first | omega | (simp; done) | (simp <;> omega))
        have hz10 := hb.size
        (try simp at hz10)
        clear hb
        have nA0 : w2.heap.size < w10.heap.size := by omega
        have nB0 : ¬ w2.heap.size = w10.heap.size := by omega
        have nC0 : ¬ w10.heap.size = w2.heap.size := by omega
        have nA1 : w3.heap.size < w10.heap.size := by omega
        have nB1 : ¬ w3.heap.size = w10.heap.size := by omega
        have nC1 : ¬ w10.heap.size = w3.heap.size := by omega
        have nA2 : w4.heap.size < w10.heap.size := by omega
        have nB2 : ¬ w4.heap.size = w10.heap.size := by omega
        have nC2 : ¬ w10.heap.size = w4.heap.size := by omega
        have nA3 : w5.heap.size < w10.heap.size := by omega
        have nB3 : ¬ w5.heap.size = w10.heap.size := by omega
        have nC3 : ¬ w10.heap.size = w5.heap.size := by omega
        have nA4 : w6.heap.size < w10.heap.size := by omega
        have nB4 : ¬ w6.heap.size = w10.heap.size := by omega
        have nC4 : ¬ w10.heap.size = w6.heap.size := by omega
        have nA5 : w6.heap.size + 1 < w10.heap.size := by omega
        have nB5 : ¬ w6.heap.size + 1 = w10.heap.size := by omega
        have nC5 : ¬ w10.heap.size = w6.heap.size + 1 := by omega
        have nA6 : w7.heap.size < w10.heap.size := by omega
        have nB6 : ¬ w7.heap.size = w10.heap.size := by omega
        have nC6 : ¬ w10.heap.size = w7.heap.size := by omega
        have nA7 : w8.heap.size < w10.heap.size := by omega
        have nB7 : ¬ w8.heap.size = w10.heap.size := by omega
        have nC7 : ¬ w10.heap.size = w8.heap.size := by omega
        have nA8 : w9.heap.size < w10.heap.size := by omega
        have nB8 : ¬ w9.heap.size = w10.heap.size := by omega
        have nC8 : ¬ w10.heap.size = w9.heap.size := by omega
        refine hK.out _ _ (show _ from ⟨(cellsM Ho.out), (cellsF Hbd.out), (HPW.out _ _ Hpw.out)⟩) (fun hHeld => ?_)
        clear hK K
        (try simp only [Act.put, List.getElem_toArray, List.getElem_cons_succ, List.getElem_cons_zero, List.setIfInBounds_toArray, List.set_cons_zero, List.set_cons_succ])
        refine wpAnyH_take (i := 7) (v := ?_) rfl (by kernel_rfl) (by kernel_rfl) (by kernel_rfl) (fun _ _ _ h => h) (Or.inl ⟨by rfl, ?_⟩) (by assumption) ?_
        rotate_left
        (focus (intro w hSw; (try dsimp only at hSw); go_simp; (try with_reducible rfl)))
        (try simp only [Act.put, List.getElem_toArray, List.getElem_cons_succ, List.getElem_cons_zero, List.setIfInBounds_toArray, List.set_cons_zero, List.set_cons_succ])
        refine wpAnyH_take (i := 8) (v := ?_) rfl (by kernel_rfl) (by kernel_rfl) (by kernel_rfl) (fun _ _ _ h => h) (Or.inl ⟨by rfl, ?_⟩) (by assumption) ?_
        rotate_left
        (focus (intro w hSw; (try dsimp only at hSw); go_simp; (try with_reducible rfl)))
        (try simp only [Act.put, List.getElem_toArray, List.getElem_cons_succ, List.getElem_cons_zero, List.setIfInBounds_toArray, List.set_cons_zero, List.set_cons_succ])
        refine wpAnyH_take (i := 9) (v := ?_) rfl (by kernel_rfl) (by kernel_rfl) (by kernel_rfl) (fun _ _ _ h => h) (Or.inl ⟨by rfl, ?_⟩) (by assumption) ?_
        rotate_left
        (focus (intro w hSw; (try dsimp only at hSw); go_simp; (try with_reducible rfl)))
        (try simp only [Act.put, List.getElem_toArray, List.getElem_cons_succ, List.getElem_cons_zero, List.setIfInBounds_toArray, List.set_cons_zero, List.set_cons_succ])
        refine wpAnyH_take (i := 10) (v := ?_) rfl (by kernel_rfl) (by kernel_rfl) (by kernel_rfl) (fun _ _ _ h => h) (Or.inl ⟨by rfl, ?_⟩) (by assumption) ?_
        rotate_left
        (focus (intro w hSw; (try dsimp only at hSw); go_simp; (try with_reducible rfl)))
        (try simp only [Act.put, List.getElem_toArray, List.getElem_cons_succ, List.getElem_cons_zero, List.setIfInBounds_toArray, List.set_cons_zero, List.set_cons_succ])
        refine wpAnyH_take (i := 11) (v := ?_) rfl (by kernel_rfl) (by kernel_rfl) (by kernel_rfl) (fun _ _ _ h => h) (Or.inl ⟨by rfl, ?_⟩) (by assumption) ?_
        rotate_left
        (focus (intro w hSw; (try dsimp only at hSw); go_simp; (try with_reducible rfl)))
        (try simp only [Act.put, List.getElem_toArray, List.getElem_cons_succ, List.getElem_cons_zero, List.setIfInBounds_toArray, List.set_cons_zero, List.set_cons_succ])
        refine wpAnyH_take (i := 12) (v := ?_) rfl (by kernel_rfl) (by kernel_rfl) (by kernel_rfl) (fun _ _ _ h => h) (Or.inl ⟨by rfl, ?_⟩) (by assumption) ?_
        rotate_left
        (focus (intro w hSw; (try dsimp only at hSw); go_simp; (try with_reducible rfl)))
        (try simp only [Act.put, List.getElem_toArray, List.getElem_cons_succ, List.getElem_cons_zero, List.setIfInBounds_toArray, List.set_cons_zero, List.set_cons_succ])
        refine wpAnyH_take (i := 13) (v := ?_) rfl (by kernel_rfl) (by kernel_rfl) (by kernel_rfl) (fun _ _ _ h => h) (Or.inl ⟨by rfl, ?_⟩) (by assumption) ?_
        rotate_left
        (focus (intro w hSw; (try dsimp only at hSw); go_simp; (try with_reducible rfl)))
        (try simp only [Act.put, List.getElem_toArray, List.getElem_cons_succ, List.getElem_cons_zero, List.setIfInBounds_toArray, List.set_cons_zero, List.set_cons_succ])
        refine wpAnyH_take (i := 14) (v := ?_) rfl (by kernel_rfl) (by kernel_rfl) (by kernel_rfl) (fun _ _ _ h => h) (Or.inl ⟨by rfl, ?_⟩) (by assumption) ?_
        rotate_left
        (focus (intro w hSw; (try dsimp only at hSw); go_simp; (try with_reducible rfl)))
        (try simp only [Act.put, List.getElem_toArray, List.getElem_cons_succ, List.getElem_cons_zero, List.setIfInBounds_toArray, List.set_cons_zero, List.set_cons_succ])
        refine wpAnyH_take (i := 15) (v := ?_) rfl (by kernel_rfl) (by kernel_rfl) (by kernel_rfl) (fun _ _ _ h => h) (Or.inl ⟨by rfl, ?_⟩) (by assumption) ?_
        rotate_left
        (focus (intro w hSw; (try dsimp only at hSw); go_simp; (try with_reducible rfl)))
        (try simp only [Act.put, List.getElem_toArray, List.getElem_cons_succ, List.getElem_cons_zero, List.setIfInBounds_toArray, List.set_cons_zero, List.set_cons_succ])
        refine wpAnyH_take (i := 16) (v := ?_) rfl (by kernel_rfl) (by kernel_rfl) (by kernel_rfl) (fun _ _ _ h => h) (Or.inl ⟨by rfl, ?_⟩) (by assumption) ?_
        rotate_left
        (focus (intro w hSw; (try dsimp only at hSw); go_simp; (try with_reducible rfl)))
        (try simp only [Act.put, List.getElem_toArray, List.getElem_cons_succ, List.getElem_cons_zero, List.setIfInBounds_toArray, List.set_cons_zero, List.set_cons_succ])
        refine wpAnyH_take (i := 17) (v := ?_) rfl (by kernel_rfl) (by kernel_rfl) (by kernel_rfl) (fun _ _ _ h => h) (Or.inl ⟨by rfl, ?_⟩) (by assumption) ?_
        rotate_left
        (focus (intro w hSw; (try dsimp only at hSw); go_simp; (try with_reducible rfl)))
        (try simp only [Act.put, List.getElem_toArray, List.getElem_cons_succ, List.getElem_cons_zero, List.setIfInBounds_toArray, List.set_cons_zero, List.set_cons_succ])
        refine wpAnyH_take (i := 18) (v := ?_) rfl (by kernel_rfl) (by kernel_rfl) (by kernel_rfl) (fun _ _ _ h => h) (Or.inl ⟨by rfl, ?_⟩) (by assumption) ?_
        rotate_left
        (focus (intro w hSw; (try dsimp only at hSw); go_simp; (try with_reducible rfl)))
        (try simp only [Act.put, List.getElem_toArray, List.getElem_cons_succ, List.getElem_cons_zero, List.setIfInBounds_toArray, List.set_cons_zero, List.set_cons_succ])
        refine wpAnyH_take (i := 19) (v := ?_) rfl (by kernel_rfl) (by kernel_rfl) (by kernel_rfl) (fun _ _ _ h => h) (Or.inl ⟨by rfl, ?_⟩) (by assumption) ?_
        rotate_left
        (focus (intro w hSw; (try dsimp only at hSw); go_simp; (try with_reducible rfl)))
        (try simp only [Act.put, List.getElem_toArray, List.getElem_cons_succ, List.getElem_cons_zero, List.setIfInBounds_toArray, List.set_cons_zero, List.set_cons_succ])
        refine wpAnyH_take (i := 20) (v := ?_) rfl (by kernel_rfl) (by kernel_rfl) (by kernel_rfl) (fun _ _ _ h => h) (Or.inl ⟨by rfl, ?_⟩) (by assumption) ?_
        rotate_left
        (focus (intro w hSw; (try dsimp only at hSw); go_simp; (try with_reducible rfl)))
        (try simp only [Act.put, List.getElem_toArray, List.getElem_cons_succ, List.getElem_cons_zero, List.setIfInBounds_toArray, List.set_cons_zero, List.set_cons_succ])
        refine wpAnyH_take (i := 21) (v := ?_) rfl (by kernel_rfl) (by kernel_rfl) (by kernel_rfl) (fun _ _ _ h => h) (Or.inl ⟨by rfl, ?_⟩) (by assumption) ?_
        rotate_left
        (focus (intro w hSw; (try dsimp only at hSw); go_simp; (try with_reducible rfl)))
        (try simp only [Act.put, List.getElem_toArray, List.getElem_cons_succ, List.getElem_cons_zero, List.setIfInBounds_toArray, List.set_cons_zero, List.set_cons_succ])
        refine wpAnyH_take (i := 22) (v := ?_) rfl (by kernel_rfl) (by kernel_rfl) (by kernel_rfl) (fun _ _ _ h => h) (Or.inl ⟨by rfl, ?_⟩) (by assumption) ?_
        rotate_left
        (focus (intro w hSw; (try dsimp only at hSw); go_simp; (try with_reducible rfl)))
        (try simp only [Act.put, List.getElem_toArray, List.getElem_cons_succ, List.getElem_cons_zero, List.setIfInBounds_toArray, List.set_cons_zero, List.set_cons_succ])
        refine wpAnyH_take (i := 23) (v := ?_) rfl (by kernel_rfl) (by kernel_rfl) (by kernel_rfl) (fun _ _ _ h => h) (Or.inl ⟨by rfl, ?_⟩) (by assumption) ?_
        rotate_left
        (focus (intro w hSw; (try dsimp only at hSw); go_simp; (try with_reducible rfl)))
        (try simp only [Act.put, List.getElem_toArray, List.getElem_cons_succ, List.getElem_cons_zero, List.setIfInBounds_toArray, List.set_cons_zero, List.set_cons_succ])
        refine wpAnyH_take (i := 24) (v := ?_) rfl (by kernel_rfl) (by kernel_rfl) (by kernel_rfl) (fun _ _ _ h => h) (Or.inl ⟨by rfl, ?_⟩) (by assumption) ?_
        rotate_left
        (focus (intro w hSw; (try dsimp only at hSw); go_simp; (try with_reducible rfl)))
        (try simp only [Act.put, List.getElem_toArray, List.getElem_cons_succ, List.getElem_cons_zero, List.setIfInBounds_toArray, List.set_cons_zero, List.set_cons_succ])
        refine wpAnyH_take (i := 25) (v := ?_) rfl (by kernel_rfl) (by kernel_rfl) (by kernel_rfl) (fun _ _ _ h => h) (Or.inl ⟨by rfl, ?_⟩) (by assumption) ?_
        rotate_left
        (focus (intro w hSw; (try dsimp only at hSw); go_simp; (try with_reducible rfl)))
        (try simp only [Act.put, List.getElem_toArray, List.getElem_cons_succ, List.getElem_cons_zero, List.setIfInBounds_toArray, List.set_cons_zero, List.set_cons_succ])
        refine wpAnyH_take (i := 26) (v := ?_) rfl (by kernel_rfl) (by kernel_rfl) (by kernel_rfl) (fun _ _ _ h => h) (Or.inl ⟨by rfl, ?_⟩) (by assumption) ?_
        rotate_left
        (focus (intro w hSw; (try dsimp only at hSw); go_simp; (try with_reducible rfl)))
        (try simp only [Act.put, List.getElem_toArray, List.getElem_cons_succ, List.getElem_cons_zero, List.setIfInBounds_toArray, List.set_cons_zero, List.set_cons_succ])
        refine wpAnyH_take (i := 27) (v := ?_) rfl (by kernel_rfl) (by kernel_rfl) (by kernel_rfl) (fun _ _ _ h => h) (Or.inl ⟨by rfl, ?_⟩) (by assumption) ?_
        rotate_left
        (focus (intro w hSw; (try dsimp only at hSw); go_simp; (try with_reducible rfl)))
        (try simp only [Act.put, List.getElem_toArray, List.getElem_cons_succ, List.getElem_cons_zero, List.setIfInBounds_toArray, List.set_cons_zero, List.set_cons_succ])
        refine wpAnyH_take (i := 28) (v := ?_) rfl (by kernel_rfl) (by kernel_rfl) (by kernel_rfl) (fun _ _ _ h => h) (Or.inl ⟨by rfl, ?_⟩) (by assumption) ?_
        rotate_left
        (focus (intro w hSw; (try dsimp only at hSw); go_simp; (try with_reducible rfl)))
        (try simp only [Act.put, List.getElem_toArray, List.getElem_cons_succ, List.getElem_cons_zero, List.setIfInBounds_toArray, List.set_cons_zero, List.set_cons_succ])
        refine wpAnyH_take (i := 29) (v := ?_) rfl (by kernel_rfl) (by kernel_rfl) (by kernel_rfl) (fun _ _ _ h => h) (Or.inl ⟨by rfl, ?_⟩) (by assumption) ?_
        rotate_left
        (focus (intro w hSw; (try dsimp only at hSw); go_simp; (try with_reducible rfl)))
        (try simp only [Act.put, List.getElem_toArray, List.getElem_cons_succ, List.getElem_cons_zero, List.setIfInBounds_toArray, List.set_cons_zero, List.set_cons_succ])
        refine wpAnyH_take (i := 30) (v := ?_) rfl (by kernel_rfl) (by kernel_rfl) (by kernel_rfl) (fun _ _ _ h => h) (Or.inl ⟨by rfl, ?_⟩) (by assumption) ?_
        rotate_left
        (focus (intro w hSw; (try dsimp only at hSw); go_simp; (try with_reducible rfl)))
        (try simp only [Act.put, List.getElem_toArray, List.getElem_cons_succ, List.getElem_cons_zero, List.setIfInBounds_toArray, List.set_cons_zero, List.set_cons_succ])
        refine wpAnyH_take (i := 31) rfl (by kernel_rfl) (by kernel_rfl) (by kernel_rfl) (fun _ _ _ h => h) (Or.inr ⟨by rfl, rfl⟩) (by assumption) ?_
        (try simp only [Act.put, List.getElem_toArray, List.getElem_cons_succ, List.getElem_cons_zero, List.setIfInBounds_toArray, List.set_cons_zero, List.set_cons_succ])
        refine wpAnyH_take (i := 32) rfl (by kernel_rfl) (by kernel_rfl) (by kernel_rfl) (fun _ _ _ h => h) (Or.inr ⟨by rfl, rfl⟩) (by assumption) ?_
        (try simp only [Act.put, List.getElem_toArray, List.getElem_cons_succ, List.getElem_cons_zero, List.setIfInBounds_toArray, List.set_cons_zero, List.set_cons_succ])
        refine wpAnyH_take (i := 33) rfl (by kernel_rfl) (by kernel_rfl) (by kernel_rfl) (fun _ _ _ h => h) (Or.inr ⟨by rfl, rfl⟩) (by assumption) ?_
        (try simp only [Act.put, List.getElem_toArray, List.getElem_cons_succ, List.getElem_cons_zero, List.setIfInBounds_toArray, List.set_cons_zero, List.set_cons_succ])
        refine wpAnyH_take (i := 34) (v := ?_) rfl (by kernel_rfl) (by kernel_rfl) (by kernel_rfl) (fun _ _ _ h => h) (Or.inl ⟨by rfl, ?_⟩) (by assumption) ?_
        rotate_left
        (focus (intro w hSw; (try dsimp only at hSw); go_simp; (try with_reducible rfl)))
        (try simp only [Act.put, List.getElem_toArray, List.getElem_cons_succ, List.getElem_cons_zero, List.setIfInBounds_toArray, List.set_cons_zero, List.set_cons_succ])
        refine wpAnyH_take (i := 35) (v := ?_) rfl (by kernel_rfl) (by kernel_rfl) (by kernel_rfl) (fun _ _ _ h => h) (Or.inl ⟨by rfl, ?_⟩) (by assumption) ?_
        rotate_left
        (focus (intro w hSw; (try dsimp only at hSw); go_simp; (try with_reducible rfl)))
        (try simp only [Act.put, List.getElem_toArray, List.getElem_cons_succ, List.getElem_cons_zero, List.setIfInBounds_toArray, List.set_cons_zero, List.set_cons_succ])
        refine wpAnyH_take (i := 36) (v := ?_) rfl (by kernel_rfl) (by kernel_rfl) (by kernel_rfl) (fun _ _ _ h => h) (Or.inl ⟨by rfl, ?_⟩) (by assumption) ?_
        rotate_left
        (focus (intro w hSw; (try dsimp only at hSw); go_simp; (try with_reducible rfl)))
        (try simp only [Act.put, List.getElem_toArray, List.getElem_cons_succ, List.getElem_cons_zero, List.setIfInBounds_toArray, List.set_cons_zero, List.set_cons_succ])
        refine wpAnyH_done (by kernel_rfl) ?_ _
        clear hHeld
        go_wp2_with fail
        go_ret
        exact ⟨rfl, (by (repeat' first | (with_reducible exact HB.out) | with_reducible refine setCells_below _ _ _ ?_ (by first | omega | (simp <;> omega)) | with_reducible refine Below.setCell ?_ (by show _ ≤ _; first | omega | (simp <;> omega) | simp) _ | with_reducible refine Below.alloc ?_ (by first | omega | (simp <;> omega)) _ | with_reducible apply Below.drew | with_reducible refine below_drewN ?_ _))⟩
      · skip
        obtain rfl : d = ⟨F, G, 1⟩ := HW2.out rfl
        have hEd : ∀ w, (Op.equalIn 10000 23 (.agg #[.int .i64 F, .int .i64 G, .int .i64 1]) (.agg #[.int .i64 F, .int .i64 G, .int .i64 1])).run Tryd.prog w = .ok true w := fun w => by have := eqFr_run ⟨F, G, 1⟩ ⟨F, G, 1⟩ 9998 w; rw [frB_iff.2 rfl] at this; exact this
        obtain rfl : X = y := HW3.out rfl
        have hEq2 : ∀ w, (Op.equalIn 10000 41 (.agg #[.int .i64 X.a.re, .int .i64 X.a.im, .int .i64 X.a.den, .int .i64 X.b.re, .int .i64 X.b.im, .int .i64 X.b.den, .int .i64 X.c.re, .int .i64 X.c.im, .int .i64 X.c.den, .int .i64 X.d.re, .int .i64 X.d.im, .int .i64 X.d.den]) (.agg #[.int .i64 X.a.re, .int .i64 X.a.im, .int .i64 X.a.den, .int .i64 X.b.re, .int .i64 X.b.im, .int .i64 X.b.den, .int .i64 X.c.re, .int .i64 X.c.im, .int .i64 X.c.den, .int .i64 X.d.re, .int .i64 X.d.im, .int .i64 X.d.den])).run Tryd.prog w = .ok true w := eqMat_run X
        have hlos : gLos m = true := HW1.out rfl
        clear HW1 HW2 HW3
        go_wp2_with fail
        refine wp_region_held_drew (S := (fun w' => (w'.cell? ⟨w2.heap.size, 0, none⟩ = some (.int .i64 m.a.re) ∧ w'.cell? ⟨w2.heap.size, 1, none⟩ = some (.int .i64 m.a.im) ∧ w'.cell? ⟨w2.heap.size, 2, none⟩ = some (.int .i64 m.a.den) ∧ w'.cell? ⟨w2.heap.size, 3, none⟩ = some (.int .i64 m.b.re) ∧ w'.cell? ⟨w2.heap.size, 4, none⟩ = some (.int .i64 m.b.im) ∧ w'.cell? ⟨w2.heap.size, 5, none⟩ = some (.int .i64 m.b.den) ∧ w'.cell? ⟨w2.heap.size, 6, none⟩ = some (.int .i64 m.c.re) ∧ w'.cell? ⟨w2.heap.size, 7, none⟩ = some (.int .i64 m.c.im) ∧ w'.cell? ⟨w2.heap.size, 8, none⟩ = some (.int .i64 m.c.den) ∧ w'.cell? ⟨w2.heap.size, 9, none⟩ = some (.int .i64 m.d.re) ∧ w'.cell? ⟨w2.heap.size, 10, none⟩ = some (.int .i64 m.d.im) ∧ w'.cell? ⟨w2.heap.size, 11, none⟩ = some (.int .i64 m.d.den)) ∧ (w'.cell? ⟨w6.heap.size, 0, none⟩ = some (.int .i64 F) ∧ w'.cell? ⟨w6.heap.size, 1, none⟩ = some (.int .i64 G) ∧ w'.cell? ⟨w6.heap.size, 2, none⟩ = some (.int .i64 1)) ∧ (w'.cell? ⟨w6.heap.size + 1, n * 3, none⟩ = some (.int .i64 F) ∧ w'.cell? ⟨w6.heap.size + 1, n * 3 + 1, none⟩ = some (.int .i64 G) ∧ w'.cell? ⟨w6.heap.size + 1, n * 3 + 2, none⟩ = some (.int .i64 1)) ∧ (w'.cell? ⟨w8.heap.size, 0, none⟩ = some (.int .i64 X.a.re) ∧ w'.cell? ⟨w8.heap.size, 1, none⟩ = some (.int .i64 X.a.im) ∧ w'.cell? ⟨w8.heap.size, 2, none⟩ = some (.int .i64 X.a.den) ∧ w'.cell? ⟨w8.heap.size, 3, none⟩ = some (.int .i64 X.b.re) ∧ w'.cell? ⟨w8.heap.size, 4, none⟩ = some (.int .i64 X.b.im) ∧ w'.cell? ⟨w8.heap.size, 5, none⟩ = some (.int .i64 X.b.den) ∧ w'.cell? ⟨w8.heap.size, 6, none⟩ = some (.int .i64 X.c.re) ∧ w'.cell? ⟨w8.heap.size, 7, none⟩ = some (.int .i64 X.c.im) ∧ w'.cell? ⟨w8.heap.size, 8, none⟩ = some (.int .i64 X.c.den) ∧ w'.cell? ⟨w8.heap.size, 9, none⟩ = some (.int .i64 X.d.re) ∧ w'.cell? ⟨w8.heap.size, 10, none⟩ = some (.int .i64 X.d.im) ∧ w'.cell? ⟨w8.heap.size, 11, none⟩ = some (.int .i64 X.d.den)) ∧ (w'.cell? ⟨w9.heap.size, 0, none⟩ = some (.int .i64 X.a.re) ∧ w'.cell? ⟨w9.heap.size, 1, none⟩ = some (.int .i64 X.a.im) ∧ w'.cell? ⟨w9.heap.size, 2, none⟩ = some (.int .i64 X.a.den) ∧ w'.cell? ⟨w9.heap.size, 3, none⟩ = some (.int .i64 X.b.re) ∧ w'.cell? ⟨w9.heap.size, 4, none⟩ = some (.int .i64 X.b.im) ∧ w'.cell? ⟨w9.heap.size, 5, none⟩ = some (.int .i64 X.b.den) ∧ w'.cell? ⟨w9.heap.size, 6, none⟩ = some (.int .i64 X.c.re) ∧ w'.cell? ⟨w9.heap.size, 7, none⟩ = some (.int .i64 X.c.im) ∧ w'.cell? ⟨w9.heap.size, 8, none⟩ = some (.int .i64 X.c.den) ∧ w'.cell? ⟨w9.heap.size, 9, none⟩ = some (.int .i64 X.d.re) ∧ w'.cell? ⟨w9.heap.size, 10, none⟩ = some (.int .i64 X.d.im) ∧ w'.cell? ⟨w9.heap.size, 11, none⟩ = some (.int .i64 X.d.den)))) (by kernel_rfl) (show _ from ⟨(cellsM (show World.rangeAt (World.drew (w9.alloc (.cells #[.int .i64 X.a.re, .int .i64 X.a.im, .int .i64 X.a.den, .int .i64 X.b.re, .int .i64 X.b.im, .int .i64 X.b.den, .int .i64 X.c.re, .int .i64 X.c.im, .int .i64 X.c.den, .int .i64 X.d.re, .int .i64 X.d.im, .int .i64 X.d.den] 41))) (w2.heap.size) 0 [.int .i64 m.a.re, .int .i64 m.a.im, .int .i64 m.a.den, .int .i64 m.b.re, .int .i64 m.b.im, .int .i64 m.b.den, .int .i64 m.c.re, .int .i64 m.c.im, .int .i64 m.c.den, .int .i64 m.d.re, .int .i64 m.d.im, .int .i64 m.d.den] from (World.rangeAt_alloc Ho.out _))), (cellsF (show World.rangeAt (World.drew (w9.alloc (.cells #[.int .i64 X.a.re, .int .i64 X.a.im, .int .i64 X.a.den, .int .i64 X.b.re, .int .i64 X.b.im, .int .i64 X.b.den, .int .i64 X.c.re, .int .i64 X.c.im, .int .i64 X.c.den, .int .i64 X.d.re, .int .i64 X.d.im, .int .i64 X.d.den] 41))) (w6.heap.size) 0 [.int .i64 F, .int .i64 G, .int .i64 1] from (World.rangeAt_alloc Hbd.out _))), (HPW.out _ _ (show World.rangeAt (World.drew (w9.alloc (.cells #[.int .i64 X.a.re, .int .i64 X.a.im, .int .i64 X.a.den, .int .i64 X.b.re, .int .i64 X.b.im, .int .i64 X.b.den, .int .i64 X.c.re, .int .i64 X.c.im, .int .i64 X.c.den, .int .i64 X.d.re, .int .i64 X.d.im, .int .i64 X.d.den] 41))) (w6.heap.size + 1) 0 [.int .i64 1, .int .i64 0, .int .i64 1, .int .i64 0, .int .i64 1, .int .i64 1, .int .i64 (-1), .int .i64 0, .int .i64 1, .int .i64 0, .int .i64 (-1), .int .i64 1] from (World.rangeAt_alloc Hpw.out _))), (cellsM (show World.rangeAt (World.drew (w9.alloc (.cells #[.int .i64 X.a.re, .int .i64 X.a.im, .int .i64 X.a.den, .int .i64 X.b.re, .int .i64 X.b.im, .int .i64 X.b.den, .int .i64 X.c.re, .int .i64 X.c.im, .int .i64 X.c.den, .int .i64 X.d.re, .int .i64 X.d.im, .int .i64 X.d.den] 41))) (w8.heap.size) 0 [.int .i64 X.a.re, .int .i64 X.a.im, .int .i64 X.a.den, .int .i64 X.b.re, .int .i64 X.b.im, .int .i64 X.b.den, .int .i64 X.c.re, .int .i64 X.c.im, .int .i64 X.c.den, .int .i64 X.d.re, .int .i64 X.d.im, .int .i64 X.d.den] from (World.rangeAt_alloc Hbx.out _))), (cellsM (show World.rangeAt (World.drew (w9.alloc (.cells #[.int .i64 X.a.re, .int .i64 X.a.im, .int .i64 X.a.den, .int .i64 X.b.re, .int .i64 X.b.im, .int .i64 X.b.den, .int .i64 X.c.re, .int .i64 X.c.im, .int .i64 X.c.den, .int .i64 X.d.re, .int .i64 X.d.im, .int .i64 X.d.den] 41))) (w9.heap.size) 0 [.int .i64 X.a.re, .int .i64 X.a.im, .int .i64 X.a.den, .int .i64 X.b.re, .int .i64 X.b.im, .int .i64 X.b.den, .int .i64 X.c.re, .int .i64 X.c.im, .int .i64 X.c.den, .int .i64 X.d.re, .int .i64 X.d.im, .int .i64 X.d.den] from (rangeAt_new _ _ _)))⟩) (fun hHeld => ?_)
        refine wpAnyH_take (i := 0) (v := ?_) rfl (by kernel_rfl) (by kernel_rfl) (by kernel_rfl) (fun _ _ _ h => h) (Or.inl ⟨by rfl, ?_⟩) (by assumption) ?_
        rotate_left
        (focus (intro w hSw; (try dsimp only at hSw); go_simp; (try with_reducible rfl)))
        (try simp only [Act.put, List.getElem_toArray, List.getElem_cons_zero, List.setIfInBounds_toArray, List.set_cons_zero, List.set_cons_succ])
        refine wpAnyH_take (i := 1) (v := ?_) rfl (by kernel_rfl) (by kernel_rfl) (by kernel_rfl) (fun _ _ _ h => h) (Or.inl ⟨by rfl, ?_⟩) (by assumption) ?_
        rotate_left
        (focus (intro w hSw; (try dsimp only at hSw); go_simp; (try with_reducible rfl)))
        (try simp only [Act.put, List.getElem_toArray, List.getElem_cons_succ, List.getElem_cons_zero, List.setIfInBounds_toArray, List.set_cons_zero, List.set_cons_succ])
        refine wpAnyH_take (i := 2) (v := ?_) rfl (by kernel_rfl) (by kernel_rfl) (by kernel_rfl) (fun _ _ _ h => h) (Or.inl ⟨by rfl, ?_⟩) (by assumption) ?_
        rotate_left
        (focus (intro w hSw; (try dsimp only at hSw); go_simp; (try with_reducible rfl)))
        (try simp only [Act.put, List.getElem_toArray, List.getElem_cons_succ, List.getElem_cons_zero, List.setIfInBounds_toArray, List.set_cons_zero, List.set_cons_succ])
        refine wpAnyH_take (i := 3) (v := ?_) rfl (by kernel_rfl) (by kernel_rfl) (by kernel_rfl) (fun _ _ _ h => h) (Or.inl ⟨by rfl, ?_⟩) (by assumption) ?_
        rotate_left
        (focus (intro w hSw; (try dsimp only at hSw); go_simp; (try with_reducible rfl)))
        (try simp only [Act.put, List.getElem_toArray, List.getElem_cons_succ, List.getElem_cons_zero, List.setIfInBounds_toArray, List.set_cons_zero, List.set_cons_succ])
        refine wpAnyH_take (i := 4) (v := ?_) rfl (by kernel_rfl) (by kernel_rfl) (by kernel_rfl) (fun _ _ _ h => h) (Or.inl ⟨by rfl, ?_⟩) (by assumption) ?_
        rotate_left
        (focus (intro w hSw; (try dsimp only at hSw); go_simp; (try with_reducible rfl)))
        (try simp only [Act.put, List.getElem_toArray, List.getElem_cons_succ, List.getElem_cons_zero, List.setIfInBounds_toArray, List.set_cons_zero, List.set_cons_succ])
        refine wpAnyH_take (i := 5) (v := ?_) rfl (by kernel_rfl) (by kernel_rfl) (by kernel_rfl) (fun _ _ _ h => h) (Or.inl ⟨by rfl, ?_⟩) (by assumption) ?_
        rotate_left
        (focus (intro w hSw; (try dsimp only at hSw); go_simp; (try with_reducible rfl)))
        (try simp only [Act.put, List.getElem_toArray, List.getElem_cons_succ, List.getElem_cons_zero, List.setIfInBounds_toArray, List.set_cons_zero, List.set_cons_succ])
        refine wpAnyH_ready (rs := [6]) (by kernel_rfl) (by simp) ?_
        refine AllReadyH.cons rfl (fun K hK => ?_) AllReadyH.nil
        go_simp
        go_at_call 55
        (with_reducible refine (ilos_any m _ (HG_same.out.below (Below.drew (Below.alloc HB.out (by first | omega | (simp; done) | (simp <;> omega)) _)))).mono ?_)
        rintro e w10 ho
        rw [hlos] at ho
        obtain ⟨rfl, hb⟩ : e = .returned (.bool true) ∧ Below _ _ _ := (id ho)
        clear ho
        have HB := Lib.hid (show Below w.heap.size w w10 from HB.out.trans ((show Below _ _ _ from (((Below.refl _ _).alloc (by first | omega | (simp; done) | (simp <;> omega)) _).drew)).trans (hb.mono (by first | omega | (simp <;> omega)))))
        have Ho : Hid (w10.rangeAt (w2.heap.size) 0 [.int .i64 m.a.re, .int .i64 m.a.im, .int .i64 m.a.den, .int .i64 m.b.re, .int .i64 m.b.im, .int .i64 m.b.den, .int .i64 m.c.re, .int .i64 m.c.im, .int .i64 m.c.den, .int .i64 m.d.re, .int .i64 m.d.im, .int .i64 m.d.den]) := rangeAt_below (show World.rangeAt (World.drew (w9.alloc (.cells #[.int .i64 X.a.re, .int .i64 X.a.im, .int .i64 X.a.den, .int .i64 X.b.re, .int .i64 X.b.im, .int .i64 X.b.den, .int .i64 X.c.re, .int .i64 X.c.im, .int .i64 X.c.den, .int .i64 X.d.re, .int .i64 X.d.im, .int .i64 X.d.den] 41))) (w2.heap.size) 0 [.int .i64 m.a.re, .int .i64 m.a.im, .int .i64 m.a.den, .int .i64 m.b.re, .int .i64 m.b.im, .int .i64 m.b.den, .int .i64 m.c.re, .int .i64 m.c.im, .int .i64 m.c.den, .int .i64 m.d.re, .int .i64 m.d.im, .int .i64 m.d.den] from (World.rangeAt_alloc Ho.out _)) hb (by first | omega | (simp; done) | (simp <;> omega))
        have Hqq : Hid (w10.rangeAt (w3.heap.size) 0 [.int .i64 m.a.re, .int .i64 m.a.im, .int .i64 m.a.den, .int .i64 m.b.re, .int .i64 m.b.im, .int .i64 m.b.den, .int .i64 m.c.re, .int .i64 m.c.im, .int .i64 m.c.den, .int .i64 m.d.re, .int .i64 m.d.im, .int .i64 m.d.den]) := rangeAt_below (show World.rangeAt (World.drew (w9.alloc (.cells #[.int .i64 X.a.re, .int .i64 X.a.im, .int .i64 X.a.den, .int .i64 X.b.re, .int .i64 X.b.im, .int .i64 X.b.den, .int .i64 X.c.re, .int .i64 X.c.im, .int .i64 X.c.den, .int .i64 X.d.re, .int .i64 X.d.im, .int .i64 X.d.den] 41))) (w3.heap.size) 0 [.int .i64 m.a.re, .int .i64 m.a.im, .int .i64 m.a.den, .int .i64 m.b.re, .int .i64 m.b.im, .int .i64 m.b.den, .int .i64 m.c.re, .int .i64 m.c.im, .int .i64 m.c.den, .int .i64 m.d.re, .int .i64 m.d.im, .int .i64 m.d.den] from (World.rangeAt_alloc Hqq.out _)) hb (by first | omega | (simp; done) | (simp <;> omega))
        have Had : Hid (w10.rangeAt (w4.heap.size) 0 [.int .i64 c.a.re, .int .i64 c.a.im, .int .i64 c.a.den, .int .i64 c.b.re, .int .i64 c.b.im, .int .i64 c.b.den, .int .i64 c.c.re, .int .i64 c.c.im, .int .i64 c.c.den, .int .i64 c.d.re, .int .i64 c.d.im, .int .i64 c.d.den]) := rangeAt_below (show World.rangeAt (World.drew (w9.alloc (.cells #[.int .i64 X.a.re, .int .i64 X.a.im, .int .i64 X.a.den, .int .i64 X.b.re, .int .i64 X.b.im, .int .i64 X.b.den, .int .i64 X.c.re, .int .i64 X.c.im, .int .i64 X.c.den, .int .i64 X.d.re, .int .i64 X.d.im, .int .i64 X.d.den] 41))) (w4.heap.size) 0 [.int .i64 c.a.re, .int .i64 c.a.im, .int .i64 c.a.den, .int .i64 c.b.re, .int .i64 c.b.im, .int .i64 c.b.den, .int .i64 c.c.re, .int .i64 c.c.im, .int .i64 c.c.den, .int .i64 c.d.re, .int .i64 c.d.im, .int .i64 c.d.den] from (World.rangeAt_alloc Had.out _)) hb (by first | omega | (simp; done) | (simp <;> omega))
        have Haa : Hid (w10.rangeAt (w5.heap.size) 0 [.int .i64 A.a.re, .int .i64 A.a.im, .int .i64 A.a.den, .int .i64 A.b.re, .int .i64 A.b.im, .int .i64 A.b.den, .int .i64 A.c.re, .int .i64 A.c.im, .int .i64 A.c.den, .int .i64 A.d.re, .int .i64 A.d.im, .int .i64 A.d.den]) := rangeAt_below (show World.rangeAt (World.drew (w9.alloc (.cells #[.int .i64 X.a.re, .int .i64 X.a.im, .int .i64 X.a.den, .int .i64 X.b.re, .int .i64 X.b.im, .int .i64 X.b.den, .int .i64 X.c.re, .int .i64 X.c.im, .int .i64 X.c.den, .int .i64 X.d.re, .int .i64 X.d.im, .int .i64 X.d.den] 41))) (w5.heap.size) 0 [.int .i64 A.a.re, .int .i64 A.a.im, .int .i64 A.a.den, .int .i64 A.b.re, .int .i64 A.b.im, .int .i64 A.b.den, .int .i64 A.c.re, .int .i64 A.c.im, .int .i64 A.c.den, .int .i64 A.d.re, .int .i64 A.d.im, .int .i64 A.d.den] from (World.rangeAt_alloc Haa.out _)) hb (by first | omega | (simp; done) | (simp <;> omega))
        have Hbd : Hid (w10.rangeAt (w6.heap.size) 0 [.int .i64 F, .int .i64 G, .int .i64 1]) := rangeAt_below (show World.rangeAt (World.drew (w9.alloc (.cells #[.int .i64 X.a.re, .int .i64 X.a.im, .int .i64 X.a.den, .int .i64 X.b.re, .int .i64 X.b.im, .int .i64 X.b.den, .int .i64 X.c.re, .int .i64 X.c.im, .int .i64 X.c.den, .int .i64 X.d.re, .int .i64 X.d.im, .int .i64 X.d.den] 41))) (w6.heap.size) 0 [.int .i64 F, .int .i64 G, .int .i64 1] from (World.rangeAt_alloc Hbd.out _)) hb (by first | omega | (simp; done) | (simp <;> omega))
        have Hpw : Hid (w10.rangeAt (w6.heap.size + 1) 0 [.int .i64 1, .int .i64 0, .int .i64 1, .int .i64 0, .int .i64 1, .int .i64 1, .int .i64 (-1), .int .i64 0, .int .i64 1, .int .i64 0, .int .i64 (-1), .int .i64 1]) := rangeAt_below (show World.rangeAt (World.drew (w9.alloc (.cells #[.int .i64 X.a.re, .int .i64 X.a.im, .int .i64 X.a.den, .int .i64 X.b.re, .int .i64 X.b.im, .int .i64 X.b.den, .int .i64 X.c.re, .int .i64 X.c.im, .int .i64 X.c.den, .int .i64 X.d.re, .int .i64 X.d.im, .int .i64 X.d.den] 41))) (w6.heap.size + 1) 0 [.int .i64 1, .int .i64 0, .int .i64 1, .int .i64 0, .int .i64 1, .int .i64 1, .int .i64 (-1), .int .i64 0, .int .i64 1, .int .i64 0, .int .i64 (-1), .int .i64 1] from (World.rangeAt_alloc Hpw.out _)) hb (by first | omega | (simp; done) | (simp <;> omega))
        have Hon : Hid (w10.rangeAt (w7.heap.size) 0 [.int .i64 u.a.re, .int .i64 u.a.im, .int .i64 u.a.den, .int .i64 u.b.re, .int .i64 u.b.im, .int .i64 u.b.den, .int .i64 u.c.re, .int .i64 u.c.im, .int .i64 u.c.den, .int .i64 u.d.re, .int .i64 u.d.im, .int .i64 u.d.den]) := rangeAt_below (show World.rangeAt (World.drew (w9.alloc (.cells #[.int .i64 X.a.re, .int .i64 X.a.im, .int .i64 X.a.den, .int .i64 X.b.re, .int .i64 X.b.im, .int .i64 X.b.den, .int .i64 X.c.re, .int .i64 X.c.im, .int .i64 X.c.den, .int .i64 X.d.re, .int .i64 X.d.im, .int .i64 X.d.den] 41))) (w7.heap.size) 0 [.int .i64 u.a.re, .int .i64 u.a.im, .int .i64 u.a.den, .int .i64 u.b.re, .int .i64 u.b.im, .int .i64 u.b.den, .int .i64 u.c.re, .int .i64 u.c.im, .int .i64 u.c.den, .int .i64 u.d.re, .int .i64 u.d.im, .int .i64 u.d.den] from (World.rangeAt_alloc Hon.out _)) hb (by first | omega | (simp; done) | (simp <;> omega))
        have Hbx : Hid (w10.rangeAt (w8.heap.size) 0 [.int .i64 X.a.re, .int .i64 X.a.im, .int .i64 X.a.den, .int .i64 X.b.re, .int .i64 X.b.im, .int .i64 X.b.den, .int .i64 X.c.re, .int .i64 X.c.im, .int .i64 X.c.den, .int .i64 X.d.re, .int .i64 X.d.im, .int .i64 X.d.den]) := rangeAt_below (show World.rangeAt (World.drew (w9.alloc (.cells #[.int .i64 X.a.re, .int .i64 X.a.im, .int .i64 X.a.den, .int .i64 X.b.re, .int .i64 X.b.im, .int .i64 X.b.den, .int .i64 X.c.re, .int .i64 X.c.im, .int .i64 X.c.den, .int .i64 X.d.re, .int .i64 X.d.im, .int .i64 X.d.den] 41))) (w8.heap.size) 0 [.int .i64 X.a.re, .int .i64 X.a.im, .int .i64 X.a.den, .int .i64 X.b.re, .int .i64 X.b.im, .int .i64 X.b.den, .int .i64 X.c.re, .int .i64 X.c.im, .int .i64 X.c.den, .int .i64 X.d.re, .int .i64 X.d.im, .int .i64 X.d.den] from (World.rangeAt_alloc Hbx.out _)) hb (by first | omega | (simp; done) | (simp <;> omega))
        have Hby : Hid (w10.rangeAt (w9.heap.size) 0 [.int .i64 X.a.re, .int .i64 X.a.im, .int .i64 X.a.den, .int .i64 X.b.re, .int .i64 X.b.im, .int .i64 X.b.den, .int .i64 X.c.re, .int .i64 X.c.im, .int .i64 X.c.den, .int .i64 X.d.re, .int .i64 X.d.im, .int .i64 X.d.den]) := rangeAt_below (show World.rangeAt (World.drew (w9.alloc (.cells #[.int .i64 X.a.re, .int .i64 X.a.im, .int .i64 X.a.den, .int .i64 X.b.re, .int .i64 X.b.im, .int .i64 X.b.den, .int .i64 X.c.re, .int .i64 X.c.im, .int .i64 X.c.den, .int .i64 X.d.re, .int .i64 X.d.im, .int .i64 X.d.den] 41))) (w9.heap.size) 0 [.int .i64 X.a.re, .int .i64 X.a.im, .int .i64 X.a.den, .int .i64 X.b.re, .int .i64 X.b.im, .int .i64 X.b.den, .int .i64 X.c.re, .int .i64 X.c.im, .int .i64 X.c.den, .int .i64 X.d.re, .int .i64 X.d.im, .int .i64 X.d.den] from (rangeAt_new _ _ _)) hb (by first | omega | (simp; done) | (simp <;> omega))
        have hz10 := hb.size
        (try simp at hz10)
        clear hb
        have nA0 : w2.heap.size < w10.heap.size := by omega
        have nB0 : ¬ w2.heap.size = w10.heap.size := by omega
        have nC0 : ¬ w10.heap.size = w2.heap.size := by omega
        have nA1 : w3.heap.size < w10.heap.size := by omega
        have nB1 : ¬ w3.heap.size = w10.heap.size := by omega
        have nC1 : ¬ w10.heap.size = w3.heap.size := by omega
        have nA2 : w4.heap.size < w10.heap.size := by omega
        have nB2 : ¬ w4.heap.size = w10.heap.size := by omega
        have nC2 : ¬ w10.heap.size = w4.heap.size := by omega
        have nA3 : w5.heap.size < w10.heap.size := by omega
        have nB3 : ¬ w5.heap.size = w10.heap.size := by omega
        have nC3 : ¬ w10.heap.size = w5.heap.size := by omega
        have nA4 : w6.heap.size < w10.heap.size := by omega
        have nB4 : ¬ w6.heap.size = w10.heap.size := by omega
        have nC4 : ¬ w10.heap.size = w6.heap.size := by omega
        have nA5 : w6.heap.size + 1 < w10.heap.size := by omega
        have nB5 : ¬ w6.heap.size + 1 = w10.heap.size := by omega
        have nC5 : ¬ w10.heap.size = w6.heap.size + 1 := by omega
        have nA6 : w7.heap.size < w10.heap.size := by omega
        have nB6 : ¬ w7.heap.size = w10.heap.size := by omega
        have nC6 : ¬ w10.heap.size = w7.heap.size := by omega
        have nA7 : w8.heap.size < w10.heap.size := by omega
        have nB7 : ¬ w8.heap.size = w10.heap.size := by omega
        have nC7 : ¬ w10.heap.size = w8.heap.size := by omega
        have nA8 : w9.heap.size < w10.heap.size := by omega
        have nB8 : ¬ w9.heap.size = w10.heap.size := by omega
        have nC8 : ¬ w10.heap.size = w9.heap.size := by omega
        refine hK.out _ _ (show _ from ⟨(cellsM Ho.out), (cellsF Hbd.out), (HPW.out _ _ Hpw.out), (cellsM Hbx.out), (cellsM Hby.out)⟩) (fun hHeld => ?_)
        clear hK K
        (try simp only [Act.put, List.getElem_toArray, List.getElem_cons_succ, List.getElem_cons_zero, List.setIfInBounds_toArray, List.set_cons_zero, List.set_cons_succ])
        refine wpAnyH_take (i := 7) (v := ?_) rfl (by kernel_rfl) (by kernel_rfl) (by kernel_rfl) (fun _ _ _ h => h) (Or.inl ⟨by rfl, ?_⟩) (by assumption) ?_
        rotate_left
        (focus (intro w hSw; (try dsimp only at hSw); go_simp; (try with_reducible rfl)))
        (try simp only [Act.put, List.getElem_toArray, List.getElem_cons_succ, List.getElem_cons_zero, List.setIfInBounds_toArray, List.set_cons_zero, List.set_cons_succ])
        refine wpAnyH_take (i := 8) (v := ?_) rfl (by kernel_rfl) (by kernel_rfl) (by kernel_rfl) (fun _ _ _ h => h) (Or.inl ⟨by rfl, ?_⟩) (by assumption) ?_
        rotate_left
        (focus (intro w hSw; (try dsimp only at hSw); go_simp; (try with_reducible rfl)))
        (try simp only [Act.put, List.getElem_toArray, List.getElem_cons_succ, List.getElem_cons_zero, List.setIfInBounds_toArray, List.set_cons_zero, List.set_cons_succ])
        refine wpAnyH_take (i := 9) (v := ?_) rfl (by kernel_rfl) (by kernel_rfl) (by kernel_rfl) (fun _ _ _ h => h) (Or.inl ⟨by rfl, ?_⟩) (by assumption) ?_
        rotate_left
        (focus (intro w hSw; (try dsimp only at hSw); go_simp; (try with_reducible rfl)))
        (try simp only [Act.put, List.getElem_toArray, List.getElem_cons_succ, List.getElem_cons_zero, List.setIfInBounds_toArray, List.set_cons_zero, List.set_cons_succ])
        refine wpAnyH_take (i := 10) (v := ?_) rfl (by kernel_rfl) (by kernel_rfl) (by kernel_rfl) (fun _ _ _ h => h) (Or.inl ⟨by rfl, ?_⟩) (by assumption) ?_
        rotate_left
        (focus (intro w hSw; (try dsimp only at hSw); go_simp; (try with_reducible rfl)))
        (try simp only [Act.put, List.getElem_toArray, List.getElem_cons_succ, List.getElem_cons_zero, List.setIfInBounds_toArray, List.set_cons_zero, List.set_cons_succ])
        refine wpAnyH_take (i := 11) (v := ?_) rfl (by kernel_rfl) (by kernel_rfl) (by kernel_rfl) (fun _ _ _ h => h) (Or.inl ⟨by rfl, ?_⟩) (by assumption) ?_
        rotate_left
        (focus (intro w hSw; (try dsimp only at hSw); go_simp; (try with_reducible rfl)))
        (try simp only [Act.put, List.getElem_toArray, List.getElem_cons_succ, List.getElem_cons_zero, List.setIfInBounds_toArray, List.set_cons_zero, List.set_cons_succ])
        refine wpAnyH_take (i := 12) (v := ?_) rfl (by kernel_rfl) (by kernel_rfl) (by kernel_rfl) (fun _ _ _ h => h) (Or.inl ⟨by rfl, ?_⟩) (by assumption) ?_
        rotate_left
        (focus (intro w hSw; (try dsimp only at hSw); go_simp; (try with_reducible rfl)))
        (try simp only [Act.put, List.getElem_toArray, List.getElem_cons_succ, List.getElem_cons_zero, List.setIfInBounds_toArray, List.set_cons_zero, List.set_cons_succ])
        refine wpAnyH_take (i := 13) (v := ?_) rfl (by kernel_rfl) (by kernel_rfl) (by kernel_rfl) (fun _ _ _ h => h) (Or.inl ⟨by rfl, ?_⟩) (by assumption) ?_
        rotate_left
        (focus (intro w hSw; (try dsimp only at hSw); go_simp; (try with_reducible rfl)))
        (try simp only [Act.put, List.getElem_toArray, List.getElem_cons_succ, List.getElem_cons_zero, List.setIfInBounds_toArray, List.set_cons_zero, List.set_cons_succ])
        refine wpAnyH_take (i := 14) (v := ?_) rfl (by kernel_rfl) (by kernel_rfl) (by kernel_rfl) (fun _ _ _ h => h) (Or.inl ⟨by rfl, ?_⟩) (by assumption) ?_
        rotate_left
        (focus (intro w hSw; (try dsimp only at hSw); go_simp; (try with_reducible rfl)))
        (try simp only [Act.put, List.getElem_toArray, List.getElem_cons_succ, List.getElem_cons_zero, List.setIfInBounds_toArray, List.set_cons_zero, List.set_cons_succ])
        refine wpAnyH_take (i := 15) (v := ?_) rfl (by kernel_rfl) (by kernel_rfl) (by kernel_rfl) (fun _ _ _ h => h) (Or.inl ⟨by rfl, ?_⟩) (by assumption) ?_
        rotate_left
        (focus (intro w hSw; (try dsimp only at hSw); go_simp; (try with_reducible rfl)))
        (try simp only [Act.put, List.getElem_toArray, List.getElem_cons_succ, List.getElem_cons_zero, List.setIfInBounds_toArray, List.set_cons_zero, List.set_cons_succ])
        refine wpAnyH_take (i := 16) (v := ?_) rfl (by kernel_rfl) (by kernel_rfl) (by kernel_rfl) (fun _ _ _ h => h) (Or.inl ⟨by rfl, ?_⟩) (by assumption) ?_
        rotate_left
        (focus (intro w hSw; (try dsimp only at hSw); go_simp; (try with_reducible rfl)))
        (try simp only [Act.put, List.getElem_toArray, List.getElem_cons_succ, List.getElem_cons_zero, List.setIfInBounds_toArray, List.set_cons_zero, List.set_cons_succ])
        refine wpAnyH_take (i := 17) (v := ?_) rfl (by kernel_rfl) (by kernel_rfl) (by kernel_rfl) (fun _ _ _ h => h) (Or.inl ⟨by rfl, ?_⟩) (by assumption) ?_
        rotate_left
        (focus (intro w hSw; (try dsimp only at hSw); go_simp; (try with_reducible rfl)))
        (try simp only [Act.put, List.getElem_toArray, List.getElem_cons_succ, List.getElem_cons_zero, List.setIfInBounds_toArray, List.set_cons_zero, List.set_cons_succ])
        refine wpAnyH_take (i := 18) (v := ?_) rfl (by kernel_rfl) (by kernel_rfl) (by kernel_rfl) (fun _ _ _ h => h) (Or.inl ⟨by rfl, ?_⟩) (by assumption) ?_
        rotate_left
        (focus (intro w hSw; (try dsimp only at hSw); go_simp; (try with_reducible rfl)))
        (try simp only [Act.put, List.getElem_toArray, List.getElem_cons_succ, List.getElem_cons_zero, List.setIfInBounds_toArray, List.set_cons_zero, List.set_cons_succ])
        refine wpAnyH_take (i := 19) (v := ?_) rfl (by kernel_rfl) (by kernel_rfl) (by kernel_rfl) (fun _ _ _ h => h) (Or.inl ⟨by rfl, ?_⟩) (by assumption) ?_
        rotate_left
        (focus (intro w hSw; (try dsimp only at hSw); go_simp; (try with_reducible rfl)))
        (try simp only [Act.put, List.getElem_toArray, List.getElem_cons_succ, List.getElem_cons_zero, List.setIfInBounds_toArray, List.set_cons_zero, List.set_cons_succ])
        refine wpAnyH_take (i := 20) (v := ?_) rfl (by kernel_rfl) (by kernel_rfl) (by kernel_rfl) (fun _ _ _ h => h) (Or.inl ⟨by rfl, ?_⟩) (by assumption) ?_
        rotate_left
        (focus (intro w hSw; (try dsimp only at hSw); go_simp; (try with_reducible rfl)))
        (try simp only [Act.put, List.getElem_toArray, List.getElem_cons_succ, List.getElem_cons_zero, List.setIfInBounds_toArray, List.set_cons_zero, List.set_cons_succ])
        refine wpAnyH_take (i := 21) (v := ?_) rfl (by kernel_rfl) (by kernel_rfl) (by kernel_rfl) (fun _ _ _ h => h) (Or.inl ⟨by rfl, ?_⟩) (by assumption) ?_
        rotate_left
        (focus (intro w hSw; (try dsimp only at hSw); go_simp; (try with_reducible rfl)))
        (try simp only [Act.put, List.getElem_toArray, List.getElem_cons_succ, List.getElem_cons_zero, List.setIfInBounds_toArray, List.set_cons_zero, List.set_cons_succ])
        refine wpAnyH_take (i := 22) (v := ?_) rfl (by kernel_rfl) (by kernel_rfl) (by kernel_rfl) (fun _ _ _ h => h) (Or.inl ⟨by rfl, ?_⟩) (by assumption) ?_
        rotate_left
        (focus (intro w hSw; (try dsimp only at hSw); go_simp; (try with_reducible rfl)))
        (try simp only [Act.put, List.getElem_toArray, List.getElem_cons_succ, List.getElem_cons_zero, List.setIfInBounds_toArray, List.set_cons_zero, List.set_cons_succ])
        refine wpAnyH_take (i := 23) (v := ?_) rfl (by kernel_rfl) (by kernel_rfl) (by kernel_rfl) (fun _ _ _ h => h) (Or.inl ⟨by rfl, ?_⟩) (by assumption) ?_
        rotate_left
        (focus (intro w hSw; (try dsimp only at hSw); go_simp; (try with_reducible rfl)))
        (try simp only [Act.put, List.getElem_toArray, List.getElem_cons_succ, List.getElem_cons_zero, List.setIfInBounds_toArray, List.set_cons_zero, List.set_cons_succ])
        refine wpAnyH_take (i := 24) (v := ?_) rfl (by kernel_rfl) (by kernel_rfl) (by kernel_rfl) (fun _ _ _ h => h) (Or.inl ⟨by rfl, ?_⟩) (by assumption) ?_
        rotate_left
        (focus (intro w hSw; (try dsimp only at hSw); go_simp; (try with_reducible rfl)))
        (try simp only [Act.put, List.getElem_toArray, List.getElem_cons_succ, List.getElem_cons_zero, List.setIfInBounds_toArray, List.set_cons_zero, List.set_cons_succ])
        refine wpAnyH_take (i := 25) (v := ?_) rfl (by kernel_rfl) (by kernel_rfl) (by kernel_rfl) (fun _ _ _ h => h) (Or.inl ⟨by rfl, ?_⟩) (by assumption) ?_
        rotate_left
        (focus (intro w hSw; (try dsimp only at hSw); go_simp; (try with_reducible rfl)))
        (try simp only [Act.put, List.getElem_toArray, List.getElem_cons_succ, List.getElem_cons_zero, List.setIfInBounds_toArray, List.set_cons_zero, List.set_cons_succ])
        refine wpAnyH_take (i := 26) (v := ?_) rfl (by kernel_rfl) (by kernel_rfl) (by kernel_rfl) (fun _ _ _ h => h) (Or.inl ⟨by rfl, ?_⟩) (by assumption) ?_
        rotate_left
        (focus (intro w hSw; (try dsimp only at hSw); go_simp; (try with_reducible rfl)))
        (try simp only [Act.put, List.getElem_toArray, List.getElem_cons_succ, List.getElem_cons_zero, List.setIfInBounds_toArray, List.set_cons_zero, List.set_cons_succ])
        refine wpAnyH_take (i := 27) (v := ?_) rfl (by kernel_rfl) (by kernel_rfl) (by kernel_rfl) (fun _ _ _ h => h) (Or.inl ⟨by rfl, ?_⟩) (by assumption) ?_
        rotate_left
        (focus (intro w hSw; (try dsimp only at hSw); go_simp; (try with_reducible rfl)))
        (try simp only [Act.put, List.getElem_toArray, List.getElem_cons_succ, List.getElem_cons_zero, List.setIfInBounds_toArray, List.set_cons_zero, List.set_cons_succ])
        refine wpAnyH_take (i := 28) (v := ?_) rfl (by kernel_rfl) (by kernel_rfl) (by kernel_rfl) (fun _ _ _ h => h) (Or.inl ⟨by rfl, ?_⟩) (by assumption) ?_
        rotate_left
        (focus (intro w hSw; (try dsimp only at hSw); go_simp; (try with_reducible rfl)))
        (try simp only [Act.put, List.getElem_toArray, List.getElem_cons_succ, List.getElem_cons_zero, List.setIfInBounds_toArray, List.set_cons_zero, List.set_cons_succ])
        refine wpAnyH_take (i := 29) (v := ?_) rfl (by kernel_rfl) (by kernel_rfl) (by kernel_rfl) (fun _ _ _ h => h) (Or.inl ⟨by rfl, ?_⟩) (by assumption) ?_
        rotate_left
        (focus (intro w hSw; (try dsimp only at hSw); go_simp; (try with_reducible rfl)))
        (try simp only [Act.put, List.getElem_toArray, List.getElem_cons_succ, List.getElem_cons_zero, List.setIfInBounds_toArray, List.set_cons_zero, List.set_cons_succ])
        refine wpAnyH_take (i := 30) (v := ?_) rfl (by kernel_rfl) (by kernel_rfl) (by kernel_rfl) (fun _ _ _ h => h) (Or.inl ⟨by rfl, ?_⟩) (by assumption) ?_
        rotate_left
        (focus (intro w hSw; (try dsimp only at hSw); go_simp; (try with_reducible rfl)))
        (try simp only [Act.put, List.getElem_toArray, List.getElem_cons_succ, List.getElem_cons_zero, List.setIfInBounds_toArray, List.set_cons_zero, List.set_cons_succ])
        refine wpAnyH_take (i := 31) (v := ?_) rfl (by kernel_rfl) (by kernel_rfl) (by kernel_rfl) (fun _ _ _ h => h) (Or.inl ⟨by rfl, ?_⟩) (by assumption) ?_
        rotate_left
        (focus (intro w hSw; (try dsimp only at hSw); go_simp; (try with_reducible rfl)))
        (try simp only [Act.put, List.getElem_toArray, List.getElem_cons_succ, List.getElem_cons_zero, List.setIfInBounds_toArray, List.set_cons_zero, List.set_cons_succ])
        refine wpAnyH_take (i := 32) (v := ?_) rfl (by kernel_rfl) (by kernel_rfl) (by kernel_rfl) (fun _ _ _ h => h) (Or.inl ⟨by rfl, ?_⟩) (by assumption) ?_
        rotate_left
        (focus (intro w hSw; (try dsimp only at hSw); go_simp; (try with_reducible rfl)))
        (try simp only [Act.put, List.getElem_toArray, List.getElem_cons_succ, List.getElem_cons_zero, List.setIfInBounds_toArray, List.set_cons_zero, List.set_cons_succ])
        refine wpAnyH_take (i := 33) (v := ?_) rfl (by kernel_rfl) (by kernel_rfl) (by kernel_rfl) (fun _ _ _ h => h) (Or.inl ⟨by rfl, ?_⟩) (by assumption) ?_
        rotate_left
        (focus (intro w hSw; (try dsimp only at hSw); go_simp; (try with_reducible rfl)))
        (try simp only [Act.put, List.getElem_toArray, List.getElem_cons_succ, List.getElem_cons_zero, List.setIfInBounds_toArray, List.set_cons_zero, List.set_cons_succ])
        refine wpAnyH_take (i := 34) (v := ?_) rfl (by kernel_rfl) (by kernel_rfl) (by kernel_rfl) (fun _ _ _ h => h) (Or.inl ⟨by rfl, ?_⟩) (by assumption) ?_
        rotate_left
        (focus (intro w hSw; (try dsimp only at hSw); go_simp; (try with_reducible rfl)))
        (try simp only [Act.put, List.getElem_toArray, List.getElem_cons_succ, List.getElem_cons_zero, List.setIfInBounds_toArray, List.set_cons_zero, List.set_cons_succ])
        refine wpAnyH_take (i := 35) (v := ?_) rfl (by kernel_rfl) (by kernel_rfl) (by kernel_rfl) (fun _ _ _ h => h) (Or.inl ⟨by rfl, ?_⟩) (by assumption) ?_
        rotate_left
        (focus (intro w hSw; (try dsimp only at hSw); go_simp; (try with_reducible rfl)))
        (try simp only [Act.put, List.getElem_toArray, List.getElem_cons_succ, List.getElem_cons_zero, List.setIfInBounds_toArray, List.set_cons_zero, List.set_cons_succ])
        refine wpAnyH_take (i := 36) (v := ?_) rfl (by kernel_rfl) (by kernel_rfl) (by kernel_rfl) (fun _ _ _ h => h) (Or.inl ⟨by rfl, ?_⟩) (by assumption) ?_
        rotate_left
        (focus (intro w hSw; (try dsimp only at hSw); go_simp; (try with_reducible rfl)))
        (try simp only [Act.put, List.getElem_toArray, List.getElem_cons_succ, List.getElem_cons_zero, List.setIfInBounds_toArray, List.set_cons_zero, List.set_cons_succ])
        refine wpAnyH_done (by kernel_rfl) ?_ _
        clear hHeld
        go_wp2_with fail
        go_ret
        exact ⟨rfl, (by (repeat' first | (with_reducible exact HB.out) | with_reducible refine setCells_below _ _ _ ?_ (by first | omega | (simp <;> omega)) | with_reducible refine Below.setCell ?_ (by show _ ≤ _; first | omega | (simp <;> omega) | simp) _ | with_reducible refine Below.alloc ?_ (by first | omega | (simp <;> omega)) _ | with_reducible apply Below.drew | with_reducible refine below_drewN ?_ _))⟩
end Go.Proofs.YtmcokdiopcpifaaDoor
