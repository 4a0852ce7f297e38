/- Contracts: plates, the program's side. -/
import Derived.Test.YtmcokdiopcpifaaDoorPlMP
import Derived.Test.YtmcokdiopcpifaaDoorPlG19
import Derived.Test.YtmcokdiopcpifaaDoorPlG23
set_option maxRecDepth 100000
namespace Go.Proofs.YtmcokdiopcpifaaDoor
open Go.RowKit Pol
set_option maxRecDepth 100000 in
set_option maxHeartbeats 16000000 in
theorem ipla_any (p : Int) (q : Int) (k : Int) (w : World) (hg_one : Gat w 0 (ixF f1) 1) (hg_zero : Gat w 1 (ixF f0) 1) (hg_turns : Gat w 3 mTurns.get 4) :
    Calls Tryd.prog 50 #[.int .i64 p, .int .i64 q, .int .i64 k] w (M4Out (gPla p q k) w) := by
  cases hd : dirB p q
  · skip
    have HG := Lib.hid (gPla_1 (k := k) hd)
    have HR0 := Lib.hid (rot_n hd)
    clear hd
    have HB : Hid (Below w.heap.size w w) := Below.refl _ _
    have hlt_one := hg_one.lt
    have Hvone : Hid (w.rangeAt 0 0 [.int .i64 1, .int .i64 0, .int .i64 1]) := by show World.rangeAt _ _ _ _; exact rangeOf1 hg_one.box
    have hlt_zero := hg_zero.lt
    have Hvzero : Hid (w.rangeAt 1 0 [.int .i64 0, .int .i64 0, .int .i64 1]) := by show World.rangeAt _ _ _ _; exact rangeOf1 hg_zero.box
    have hlt_turns := hg_turns.lt
    have Hvturns : Hid (w.rangeAt 3 0 [.int .i64 1, .int .i64 0, .int .i64 1, .int .i64 0, .int .i64 1, .int .i64 1, .int .i64 (-1), .int .i64 0, .int .i64 1, .int .i64 0, .int .i64 (-1), .int .i64 1]) := by show World.rangeAt _ _ _ _; exact BoxAt.range4 hg_turns.box
    have HG_one := Lib.hid hg_one; clear hg_one
    have HG_zero := Lib.hid hg_zero; clear hg_zero
    have HG_turns := Lib.hid hg_turns; clear hg_turns
    go_enter Tryd.func50, Tryd.ntmps50
    go_wp2_with fail
    refine (irot_any p q _).mono ?_
    rintro e w1 ho
    rw [HR0.out] at ho
    obtain ⟨rfl, hb⟩ : e = .returned (.tuple #[.agg #[.int .i64 m4z.a.re, .int .i64 m4z.a.im, .int .i64 m4z.a.den, .int .i64 m4z.b.re, .int .i64 m4z.b.im, .int .i64 m4z.b.den, .int .i64 m4z.c.re, .int .i64 m4z.c.im, .int .i64 m4z.c.den, .int .i64 m4z.d.re, .int .i64 m4z.d.im, .int .i64 m4z.d.den], .bool false]) ∧ Below _ _ _ := ho.fn
    clear ho
    have HB := Lib.hid (show Below w.heap.size w w1 from HB.out.trans ((show Below _ _ _ from ((Below.refl _ _).alloc (by first | omega | (simp; done) | (simp <;> omega)) _)).trans (hb.mono (by first | omega | (simp <;> omega)))))
    have Hvone : Hid (w1.rangeAt (0) 0 [.int .i64 1, .int .i64 0, .int .i64 1]) := rangeAt_below (World.rangeAt_alloc Hvone.out _) hb (by first | omega | (simp; done) | (simp <;> omega))
    have Hvzero : Hid (w1.rangeAt (1) 0 [.int .i64 0, .int .i64 0, .int .i64 1]) := rangeAt_below (World.rangeAt_alloc Hvzero.out _) hb (by first | omega | (simp; done) | (simp <;> omega))
    have Hvturns : Hid (w1.rangeAt (3) 0 [.int .i64 1, .int .i64 0, .int .i64 1, .int .i64 0, .int .i64 1, .int .i64 1, .int .i64 (-1), .int .i64 0, .int .i64 1, .int .i64 0, .int .i64 (-1), .int .i64 1]) := rangeAt_below (World.rangeAt_alloc Hvturns.out _) hb (by first | omega | (simp; done) | (simp <;> omega))
    have HR := Lib.hid ((show Room _ (w.heap.size) 4 from (Room.new' rfl rfl)).below hb (by first | omega | (simp <;> omega)))
    have hz1 := hb.size
    (try simp at hz1)
    clear hb
    have hne1 : ¬ w1.heap = #[] := fun h => absurd (show 0 < 0 from (by have hh : 0 < w1.heap.size := (by omega); rw [h] at hh; exact hh)) (Nat.not_lt_zero _)
    have nA0 : 0 < w1.heap.size := by omega
    have nB0 : ¬ 0 = w1.heap.size := by omega
    have nC0 : ¬ w1.heap.size = 0 := by omega
    have nA1 : 1 < w1.heap.size := by omega
    have nB1 : ¬ 1 = w1.heap.size := by omega
    have nC1 : ¬ w1.heap.size = 1 := by omega
    have nA2 : 3 < w1.heap.size := by omega
    have nB2 : ¬ 3 = w1.heap.size := by omega
    have nC2 : ¬ w1.heap.size = 3 := by omega
    have nA3 : w.heap.size < w1.heap.size := by omega
    have nB3 : ¬ w.heap.size = w1.heap.size := by omega
    have nC3 : ¬ w1.heap.size = w.heap.size := by omega
    have hth := (show Room (w1.alloc (.cells #[.int .i64 m4z.a.re, .int .i64 m4z.a.im, .int .i64 m4z.a.den, .int .i64 m4z.b.re, .int .i64 m4z.b.im, .int .i64 m4z.b.den, .int .i64 m4z.c.re, .int .i64 m4z.c.im, .int .i64 m4z.c.den, .int .i64 m4z.d.re, .int .i64 m4z.d.im, .int .i64 m4z.d.den] 41)) (w.heap.size) 4 from (HR.out.alloc (by first | omega | (simp; done) | (simp <;> omega)) _)).there
    go_wp2_with (first | ((with_reducible refine wpList_store_mid ?kl101 41 ?kl10x ?kl10y ?kl102 (w.heap.size) 0 #[.int .i64 0, .int .i64 0, .int .i64 0, .int .i64 0, .int .i64 0, .int .i64 0, .int .i64 0, .int .i64 0, .int .i64 0, .int .i64 0, .int .i64 0, .int .i64 0] ?kl103 ?kl104 ?kl105 ?kl106 ?kl107 ?kl108); (case kl102 => rfl); (case kl101 => rfl); (case kl103 => rfl); (case kl104 => rfl); (case kl105 => exact hth); (case kl106 => kernel_rfl); (case kl107 => exact (by simp [Value.oneCell']))))
    refine bodyPost_ret (v := .tuple #[.agg #[.int .i64 0, .int .i64 0, .int .i64 0, .int .i64 0, .int .i64 0, .int .i64 0, .int .i64 0, .int .i64 0, .int .i64 0, .int .i64 0, .int .i64 0, .int .i64 0], .bool false]) ?_ rfl (M4Out.no HG.out ?_)
    · exact Eq.trans (results_cell_mid2 Tryd.results50 _ _ (w.heap.size) [.int .i64 0, .int .i64 0, .int .i64 0, .int .i64 0, .int .i64 0, .int .i64 0, .int .i64 0, .int .i64 0, .int .i64 0, .int .i64 0, .int .i64 0, .int .i64 0] _ (by rfl) (World.rangeAt_setCells_same _ (w.heap.size) 0 [.int .i64 0, .int .i64 0, .int .i64 0, .int .i64 0, .int .i64 0, .int .i64 0, .int .i64 0, .int .i64 0, .int .i64 0, .int .i64 0, .int .i64 0, .int .i64 0] hth) Tryd.underlying41 rfl (by kernel_rfl)) rfl
    · (repeat' first | (with_reducible exact HB.out) | with_reducible refine setCells_below _ _ _ ?_ (by first | omega | (simp <;> omega)) | with_reducible refine Below.setCell ?_ (by show _ ≤ _; first | omega | (simp <;> omega) | simp) _ | with_reducible refine Below.alloc ?_ (by first | omega | (simp <;> omega)) _ | with_reducible apply Below.drew | with_reducible refine below_drewN ?_ _)
  · skip
    obtain ⟨r, hr⟩ := rot_y hd
    cases hk : wi k 0 3
    · skip
      have HG := Lib.hid (gPla_2 (p := p) (q := q) hk)
      have HR0 := Lib.hid hr
      have HK := Lib.hid hk
      clear hd hr hk
      have HB : Hid (Below w.heap.size w w) := Below.refl _ _
      have hlt_one := hg_one.lt
      have Hvone : Hid (w.rangeAt 0 0 [.int .i64 1, .int .i64 0, .int .i64 1]) := by show World.rangeAt _ _ _ _; exact rangeOf1 hg_one.box
      have hlt_zero := hg_zero.lt
      have Hvzero : Hid (w.rangeAt 1 0 [.int .i64 0, .int .i64 0, .int .i64 1]) := by show World.rangeAt _ _ _ _; exact rangeOf1 hg_zero.box
      have hlt_turns := hg_turns.lt
      have Hvturns : Hid (w.rangeAt 3 0 [.int .i64 1, .int .i64 0, .int .i64 1, .int .i64 0, .int .i64 1, .int .i64 1, .int .i64 (-1), .int .i64 0, .int .i64 1, .int .i64 0, .int .i64 (-1), .int .i64 1]) := by show World.rangeAt _ _ _ _; exact BoxAt.range4 hg_turns.box
      have HG_one := Lib.hid hg_one; clear hg_one
      have HG_zero := Lib.hid hg_zero; clear hg_zero
      have HG_turns := Lib.hid hg_turns; clear hg_turns
      go_enter Tryd.func50, Tryd.ntmps50
      go_wp2_with fail
      refine (irot_any p q _).mono ?_
      rintro e w1 ho
      rw [HR0.out] at ho
      obtain ⟨rfl, hb⟩ : e = .returned (.tuple #[.agg #[.int .i64 r.a.re, .int .i64 r.a.im, .int .i64 r.a.den, .int .i64 r.b.re, .int .i64 r.b.im, .int .i64 r.b.den, .int .i64 r.c.re, .int .i64 r.c.im, .int .i64 r.c.den, .int .i64 r.d.re, .int .i64 r.d.im, .int .i64 r.d.den], .bool true]) ∧ Below _ _ _ := ho.fn
      clear ho
      have HB := Lib.hid (show Below w.heap.size w w1 from HB.out.trans ((show Below _ _ _ from ((Below.refl _ _).alloc (by first | omega | (simp; done) | (simp <;> omega)) _)).trans (hb.mono (by first | omega | (simp <;> omega)))))
      have Hvone : Hid (w1.rangeAt (0) 0 [.int .i64 1, .int .i64 0, .int .i64 1]) := rangeAt_below (World.rangeAt_alloc Hvone.out _) hb (by first | omega | (simp; done) | (simp <;> omega))
      have Hvzero : Hid (w1.rangeAt (1) 0 [.int .i64 0, .int .i64 0, .int .i64 1]) := rangeAt_below (World.rangeAt_alloc Hvzero.out _) hb (by first | omega | (simp; done) | (simp <;> omega))
      have Hvturns : Hid (w1.rangeAt (3) 0 [.int .i64 1, .int .i64 0, .int .i64 1, .int .i64 0, .int .i64 1, .int .i64 1, .int .i64 (-1), .int .i64 0, .int .i64 1, .int .i64 0, .int .i64 (-1), .int .i64 1]) := rangeAt_below (World.rangeAt_alloc Hvturns.out _) hb (by first | omega | (simp; done) | (simp <;> omega))
      have HR := Lib.hid ((show Room _ (w.heap.size) 4 from (Room.new' rfl rfl)).below hb (by first | omega | (simp <;> omega)))
      have hz1 := hb.size
      (try simp at hz1)
      clear hb
      have hne1 : ¬ w1.heap = #[] := fun h => absurd (show 0 < 0 from (by have hh : 0 < w1.heap.size := (by omega); rw [h] at hh; exact hh)) (Nat.not_lt_zero _)
      have nA0 : 0 < w1.heap.size := by omega
      have nB0 : ¬ 0 = w1.heap.size := by omega
      have nC0 : ¬ w1.heap.size = 0 := by omega
      have nA1 : 1 < w1.heap.size := by omega
      have nB1 : ¬ 1 = w1.heap.size := by omega
      have nC1 : ¬ w1.heap.size = 1 := by omega
      have nA2 : 3 < w1.heap.size := by omega
      have nB2 : ¬ 3 = w1.heap.size := by omega
      have nC2 : ¬ w1.heap.size = 3 := by omega
      have nA3 : w.heap.size < w1.heap.size := by omega
      have nB3 : ¬ w.heap.size = w1.heap.size := by omega
      have nC3 : ¬ w1.heap.size = w.heap.size := by omega
      have hth := (show Room (w1.alloc (.cells #[.int .i64 r.a.re, .int .i64 r.a.im, .int .i64 r.a.den, .int .i64 r.b.re, .int .i64 r.b.im, .int .i64 r.b.den, .int .i64 r.c.re, .int .i64 r.c.im, .int .i64 r.c.den, .int .i64 r.d.re, .int .i64 r.d.im, .int .i64 r.d.den] 41)) (w.heap.size) 4 from (HR.out.alloc (by first | omega | (simp; done) | (simp <;> omega)) _)).there
      go_wp2_with (first | (go_at_call 63; (with_reducible refine (within_b HK.out _).mono ?_); rintro e w' ⟨rfl, rfl⟩) | ((with_reducible refine wpList_store_mid ?kl111 41 ?kl11x ?kl11y ?kl112 (w.heap.size) 0 #[.int .i64 0, .int .i64 0, .int .i64 0, .int .i64 0, .int .i64 0, .int .i64 0, .int .i64 0, .int .i64 0, .int .i64 0, .int .i64 0, .int .i64 0, .int .i64 0] ?kl113 ?kl114 ?kl115 ?kl116 ?kl117 ?kl118); (case kl112 => rfl); (case kl111 => rfl); (case kl113 => rfl); (case kl114 => rfl); (case kl115 => exact hth); (case kl116 => kernel_rfl); (case kl117 => exact (by simp [Value.oneCell']))))
      refine bodyPost_ret (v := .tuple #[.agg #[.int .i64 0, .int .i64 0, .int .i64 0, .int .i64 0, .int .i64 0, .int .i64 0, .int .i64 0, .int .i64 0, .int .i64 0, .int .i64 0, .int .i64 0, .int .i64 0], .bool false]) ?_ rfl (M4Out.no HG.out ?_)
      · exact Eq.trans (results_cell_mid2 Tryd.results50 _ _ (w.heap.size) [.int .i64 0, .int .i64 0, .int .i64 0, .int .i64 0, .int .i64 0, .int .i64 0, .int .i64 0, .int .i64 0, .int .i64 0, .int .i64 0, .int .i64 0, .int .i64 0] _ (by rfl) (World.rangeAt_setCells_same _ (w.heap.size) 0 [.int .i64 0, .int .i64 0, .int .i64 0, .int .i64 0, .int .i64 0, .int .i64 0, .int .i64 0, .int .i64 0, .int .i64 0, .int .i64 0, .int .i64 0, .int .i64 0] hth) Tryd.underlying41 rfl (by kernel_rfl)) rfl
      · (repeat' first | (with_reducible exact HB.out) | with_reducible refine setCells_below _ _ _ ?_ (by first | omega | (simp <;> omega)) | with_reducible refine Below.setCell ?_ (by show _ ≤ _; first | omega | (simp <;> omega) | simp) _ | with_reducible refine Below.alloc ?_ (by first | omega | (simp <;> omega)) _ | with_reducible apply Below.drew | with_reducible refine below_drewN ?_ _)
    · skip
      obtain ⟨B, b, hB⟩ : ∃ B b, gAdj r = (B, b) := ⟨_, _, rfl⟩
      obtain ⟨A, u, hA⟩ : ∃ A u, mTm r (dgM (phF k)) = (A, u) := ⟨_, _, rfl⟩
      obtain ⟨C, v, hC⟩ : ∃ C v, mTm A B = (C, v) := ⟨_, _, rfl⟩
      have hg := gPla_3 hd hk hr hB hA hC
      have HR0 := Lib.hid hr
      have HK := Lib.hid hk
      have HB0 := Lib.hid hB
      have HA0 := Lib.hid hA
      have HC0 := Lib.hid hC
      have hk4 := wi4 hk
      clear hd hr hk hB hA hC
      have HGg := Lib.hid hg
      clear hg
      rcases hk4 with rfl | rfl | rfl | rfl
      · skip
        have HA0 : Hid (mTm r ⟨⟨1, 0, 1⟩, ⟨0, 0, 1⟩, ⟨0, 0, 1⟩, ⟨1, 0, 1⟩⟩ = (A, u)) := HA0.out
        have ia : (0 : Int) ≤ 0 := by omega
        have ib : (0 : Int) < 4 := by omega
        have HB : Hid (Below w.heap.size w w) := Below.refl _ _
        have hlt_one := hg_one.lt
        have Hvone : Hid (w.rangeAt 0 0 [.int .i64 1, .int .i64 0, .int .i64 1]) := by show World.rangeAt _ _ _ _; exact rangeOf1 hg_one.box
        have hlt_zero := hg_zero.lt
        have Hvzero : Hid (w.rangeAt 1 0 [.int .i64 0, .int .i64 0, .int .i64 1]) := by show World.rangeAt _ _ _ _; exact rangeOf1 hg_zero.box
        have hlt_turns := hg_turns.lt
        have Hvturns : Hid (w.rangeAt 3 0 [.int .i64 1, .int .i64 0, .int .i64 1, .int .i64 0, .int .i64 1, .int .i64 1, .int .i64 (-1), .int .i64 0, .int .i64 1, .int .i64 0, .int .i64 (-1), .int .i64 1]) := by show World.rangeAt _ _ _ _; exact BoxAt.range4 hg_turns.box
        have HG_one := Lib.hid hg_one; clear hg_one
        have HG_zero := Lib.hid hg_zero; clear hg_zero
        have HG_turns := Lib.hid hg_turns; clear hg_turns
        go_enter Tryd.func50, Tryd.ntmps50
        go_wp2_with fail
        refine (irot_any p q _).mono ?_
        rintro e w1 ho
        rw [HR0.out] at ho
        obtain ⟨rfl, hb⟩ : e = .returned (.tuple #[.agg #[.int .i64 r.a.re, .int .i64 r.a.im, .int .i64 r.a.den, .int .i64 r.b.re, .int .i64 r.b.im, .int .i64 r.b.den, .int .i64 r.c.re, .int .i64 r.c.im, .int .i64 r.c.den, .int .i64 r.d.re, .int .i64 r.d.im, .int .i64 r.d.den], .bool true]) ∧ Below _ _ _ := ho.fn
        clear ho
        have HB := Lib.hid (show Below w.heap.size w w1 from HB.out.trans ((show Below _ _ _ from ((Below.refl _ _).alloc (by first | omega | (simp; done) | (simp <;> omega)) _)).trans (hb.mono (by first | omega | (simp <;> omega)))))
        have Hvone : Hid (w1.rangeAt (0) 0 [.int .i64 1, .int .i64 0, .int .i64 1]) := rangeAt_below (World.rangeAt_alloc Hvone.out _) hb (by first | omega | (simp; done) | (simp <;> omega))
        have Hvzero : Hid (w1.rangeAt (1) 0 [.int .i64 0, .int .i64 0, .int .i64 1]) := rangeAt_below (World.rangeAt_alloc Hvzero.out _) hb (by first | omega | (simp; done) | (simp <;> omega))
        have Hvturns : Hid (w1.rangeAt (3) 0 [.int .i64 1, .int .i64 0, .int .i64 1, .int .i64 0, .int .i64 1, .int .i64 1, .int .i64 (-1), .int .i64 0, .int .i64 1, .int .i64 0, .int .i64 (-1), .int .i64 1]) := rangeAt_below (World.rangeAt_alloc Hvturns.out _) hb (by first | omega | (simp; done) | (simp <;> omega))
        have HR := Lib.hid ((show Room _ (w.heap.size) 4 from (Room.new' rfl rfl)).below hb (by first | omega | (simp <;> omega)))
        have hz1 := hb.size
        (try simp at hz1)
        clear hb
        have hne1 : ¬ w1.heap = #[] := fun h => absurd (show 0 < 0 from (by have hh : 0 < w1.heap.size := (by omega); rw [h] at hh; exact hh)) (Nat.not_lt_zero _)
        have nA0 : 0 < w1.heap.size := by omega
        have nB0 : ¬ 0 = w1.heap.size := by omega
        have nC0 : ¬ w1.heap.size = 0 := by omega
        have nA1 : 1 < w1.heap.size := by omega
        have nB1 : ¬ 1 = w1.heap.size := by omega
        have nC1 : ¬ w1.heap.size = 1 := by omega
        have nA2 : 3 < w1.heap.size := by omega
        have nB2 : ¬ 3 = w1.heap.size := by omega
        have nC2 : ¬ w1.heap.size = 3 := by omega
        have nA3 : w.heap.size < w1.heap.size := by omega
        have nB3 : ¬ w.heap.size = w1.heap.size := by omega
        have nC3 : ¬ w1.heap.size = w.heap.size := by omega
        have KH : Hid (BX w (w.heap.size) 4 [(0, [.int .i64 1, .int .i64 0, .int .i64 1]), (1, [.int .i64 0, .int .i64 0, .int .i64 1]), (3, [.int .i64 1, .int .i64 0, .int .i64 1, .int .i64 0, .int .i64 1, .int .i64 1, .int .i64 (-1), .int .i64 0, .int .i64 1, .int .i64 0, .int .i64 (-1), .int .i64 1]), (w1.heap.size, [.int .i64 r.a.re, .int .i64 r.a.im, .int .i64 r.a.den, .int .i64 r.b.re, .int .i64 r.b.im, .int .i64 r.b.den, .int .i64 r.c.re, .int .i64 r.c.im, .int .i64 r.c.den, .int .i64 r.d.re, .int .i64 r.d.im, .int .i64 r.d.den])] (w1.alloc (.cells #[.int .i64 r.a.re, .int .i64 r.a.im, .int .i64 r.a.den, .int .i64 r.b.re, .int .i64 r.b.im, .int .i64 r.b.den, .int .i64 r.c.re, .int .i64 r.c.im, .int .i64 r.c.den, .int .i64 r.d.re, .int .i64 r.d.im, .int .i64 r.d.den] 41))) := by
          show BX _ _ _ _ _
          refine ⟨(Below.alloc HB.out (by first | omega | (simp; done) | (simp <;> omega)) _), Or.inl (by first | omega | (simp <;> omega)), (HR.out.alloc (by first | omega | (simp; done) | (simp <;> omega)) _), ?_⟩
          intro e he
          simp only [List.mem_cons, List.not_mem_nil, or_false] at he
          rcases he with rfl | rfl | rfl | rfl
          · exact ⟨by first | (show 0 < _; omega) | (show 0 < _; simp; done) | (show 0 < _; simp <;> omega), (World.rangeAt_alloc Hvone.out _)⟩
          · exact ⟨by first | (show 1 < _; omega) | (show 1 < _; simp; done) | (show 1 < _; simp <;> omega), (World.rangeAt_alloc Hvzero.out _)⟩
          · exact ⟨by first | (show 3 < _; omega) | (show 3 < _; simp; done) | (show 3 < _; simp <;> omega), (World.rangeAt_alloc Hvturns.out _)⟩
          · exact ⟨by first | (show w1.heap.size < _; omega) | (show w1.heap.size < _; simp; done) | (show w1.heap.size < _; simp <;> omega), (rangeAt_new _ _ _)⟩
        have hsz2 : w1.heap.size + 1 ≤ w1.heap.size + 1 := Nat.le_refl _
        go_upto_region 4 with (go_at_call 63; (with_reducible refine (within_b HK.out _).mono ?_); rintro e w' ⟨rfl, rfl⟩)
        go_cut [10, 11] (fun s10 s11 wx => ∃ D : Nat, s10 = .pointer (some ⟨D, 0, none⟩) ∧ s11 = .bool u ∧ w1.heap.size ≤ D ∧ BX w (w.heap.size) 4 ((D, [.int .i64 A.a.re, .int .i64 A.a.im, .int .i64 A.a.den, .int .i64 A.b.re, .int .i64 A.b.im, .int .i64 A.b.den, .int .i64 A.c.re, .int .i64 A.c.im, .int .i64 A.c.den, .int .i64 A.d.re, .int .i64 A.d.im, .int .i64 A.d.den]) :: [(0, [.int .i64 1, .int .i64 0, .int .i64 1]), (1, [.int .i64 0, .int .i64 0, .int .i64 1]), (3, [.int .i64 1, .int .i64 0, .int .i64 1, .int .i64 0, .int .i64 1, .int .i64 1, .int .i64 (-1), .int .i64 0, .int .i64 1, .int .i64 0, .int .i64 (-1), .int .i64 1]), (w1.heap.size, [.int .i64 r.a.re, .int .i64 r.a.im, .int .i64 r.a.den, .int .i64 r.b.re, .int .i64 r.b.im, .int .i64 r.b.den, .int .i64 r.c.re, .int .i64 r.c.im, .int .i64 r.c.den, .int .i64 r.d.re, .int .i64 r.d.im, .int .i64 r.d.den])]) wx)
        case first =>
          have f0_r := Lib.hid (show World.rangeAt _ _ _ _ from (KH.out.drew.box (w1.heap.size, [.int .i64 r.a.re, .int .i64 r.a.im, .int .i64 r.a.den, .int .i64 r.b.re, .int .i64 r.b.im, .int .i64 r.b.den, .int .i64 r.c.re, .int .i64 r.c.im, .int .i64 r.c.den, .int .i64 r.d.re, .int .i64 r.d.im, .int .i64 r.d.den]) (by simp)).2)
          have f0_vone := Lib.hid (show World.rangeAt _ _ _ _ from (KH.out.drew.box (0, [.int .i64 1, .int .i64 0, .int .i64 1]) (by simp)).2)
          have f0_vzero := Lib.hid (show World.rangeAt _ _ _ _ from (KH.out.drew.box (1, [.int .i64 0, .int .i64 0, .int .i64 1]) (by simp)).2)
          have f0_vturns := Lib.hid (show World.rangeAt _ _ _ _ from (KH.out.drew.box (3, [.int .i64 1, .int .i64 0, .int .i64 1, .int .i64 0, .int .i64 1, .int .i64 1, .int .i64 (-1), .int .i64 0, .int .i64 1, .int .i64 0, .int .i64 (-1), .int .i64 1]) (by simp)).2)
          have h0_r := Lib.hid (fun z => show World.rangeAt _ _ _ _ from ((KH.out.alloc z).drew.box (w1.heap.size, [.int .i64 r.a.re, .int .i64 r.a.im, .int .i64 r.a.den, .int .i64 r.b.re, .int .i64 r.b.im, .int .i64 r.b.den, .int .i64 r.c.re, .int .i64 r.c.im, .int .i64 r.c.den, .int .i64 r.d.re, .int .i64 r.d.im, .int .i64 r.d.den]) (by simp)).2)
          have h0_vone := Lib.hid (fun z => show World.rangeAt _ _ _ _ from ((KH.out.alloc z).drew.box (0, [.int .i64 1, .int .i64 0, .int .i64 1]) (by simp)).2)
          have h0_vzero := Lib.hid (fun z => show World.rangeAt _ _ _ _ from ((KH.out.alloc z).drew.box (1, [.int .i64 0, .int .i64 0, .int .i64 1]) (by simp)).2)
          have h0_vturns := Lib.hid (fun z => show World.rangeAt _ _ _ _ from ((KH.out.alloc z).drew.box (3, [.int .i64 1, .int .i64 0, .int .i64 1, .int .i64 0, .int .i64 1, .int .i64 1, .int .i64 (-1), .int .i64 0, .int .i64 1, .int .i64 0, .int .i64 (-1), .int .i64 1]) (by simp)).2)
          go_region_held3 (fun w' => (w'.cell? ⟨w1.heap.size, 0, none⟩ = some (.int .i64 r.a.re) ∧ w'.cell? ⟨w1.heap.size, 1, none⟩ = some (.int .i64 r.a.im) ∧ w'.cell? ⟨w1.heap.size, 2, none⟩ = some (.int .i64 r.a.den) ∧ w'.cell? ⟨w1.heap.size, 3, none⟩ = some (.int .i64 r.b.re) ∧ w'.cell? ⟨w1.heap.size, 4, none⟩ = some (.int .i64 r.b.im) ∧ w'.cell? ⟨w1.heap.size, 5, none⟩ = some (.int .i64 r.b.den) ∧ w'.cell? ⟨w1.heap.size, 6, none⟩ = some (.int .i64 r.c.re) ∧ w'.cell? ⟨w1.heap.size, 7, none⟩ = some (.int .i64 r.c.im) ∧ w'.cell? ⟨w1.heap.size, 8, none⟩ = some (.int .i64 r.c.den) ∧ w'.cell? ⟨w1.heap.size, 9, none⟩ = some (.int .i64 r.d.re) ∧ w'.cell? ⟨w1.heap.size, 10, none⟩ = some (.int .i64 r.d.im) ∧ w'.cell? ⟨w1.heap.size, 11, none⟩ = some (.int .i64 r.d.den)) ∧ (w'.cell? ⟨0, 0, none⟩ = some (.int .i64 1) ∧ w'.cell? ⟨0, 1, none⟩ = some (.int .i64 0) ∧ w'.cell? ⟨0, 2, none⟩ = some (.int .i64 1)) ∧ (w'.cell? ⟨1, 0, none⟩ = some (.int .i64 0) ∧ w'.cell? ⟨1, 1, none⟩ = some (.int .i64 0) ∧ w'.cell? ⟨1, 2, none⟩ = some (.int .i64 1)) ∧ (w'.cell? ⟨3, 0, none⟩ = some (.int .i64 1) ∧ w'.cell? ⟨3, 1, none⟩ = some (.int .i64 0) ∧ w'.cell? ⟨3, 2, none⟩ = some (.int .i64 1) ∧ w'.cell? ⟨3, 3, none⟩ = some (.int .i64 0) ∧ w'.cell? ⟨3, 4, none⟩ = some (.int .i64 1) ∧ w'.cell? ⟨3, 5, none⟩ = some (.int .i64 1) ∧ w'.cell? ⟨3, 6, none⟩ = some (.int .i64 (-1)) ∧ w'.cell? ⟨3, 7, none⟩ = some (.int .i64 0) ∧ w'.cell? ⟨3, 8, none⟩ = some (.int .i64 1) ∧ w'.cell? ⟨3, 9, none⟩ = some (.int .i64 0) ∧ w'.cell? ⟨3, 10, none⟩ = some (.int .i64 (-1)) ∧ w'.cell? ⟨3, 11, none⟩ = some (.int .i64 1))) (((try dsimp only); (first | (with_reducible exact ⟨cellsM (f0_r.out), cellsF (f0_vone.out), cellsF (f0_vzero.out), cellsM (f0_vturns.out)⟩) | (with_reducible exact ⟨cellsM (h0_r.out _), cellsF (h0_vone.out _), cellsF (h0_vzero.out _), cellsM (h0_vturns.out _)⟩) | (with_reducible exact ⟨cellsM (f1_r.out), cellsF (f1_vone.out), cellsF (f1_vzero.out), cellsM (f1_vturns.out)⟩) | (with_reducible exact ⟨cellsM (World.rangeAt_alloc f1_r.out _), cellsF (World.rangeAt_alloc f1_vone.out _), cellsF (World.rangeAt_alloc f1_vzero.out _), cellsM (World.rangeAt_alloc f1_vturns.out _)⟩) | (with_reducible exact ⟨cellsM (KS_r.out _ (by omega) (by omega) _ _ _ _ _ _ _ _ _ _ _ _), cellsF (KS_vone.out _ (by omega) (by omega) _ _ _ _ _ _ _ _ _ _ _ _), cellsF (KS_vzero.out _ (by omega) (by omega) _ _ _ _ _ _ _ _ _ _ _ _), cellsM (KS_vturns.out _ (by omega) (by omega) _ _ _ _ _ _ _ _ _ _ _ _)⟩)))) (first | (go_at_call 53; (with_reducible refine (imtm_m r ⟨⟨1, 0, 1⟩, ⟨0, 0, 1⟩, ⟨0, 0, 1⟩, ⟨1, 0, 1⟩⟩ _).mono ?_); rintro e wr2_1 ho; rw [HA0.out] at ho; obtain ⟨rfl, hb⟩ : e = .returned (.tuple #[.agg #[.int .i64 A.a.re, .int .i64 A.a.im, .int .i64 A.a.den, .int .i64 A.b.re, .int .i64 A.b.im, .int .i64 A.b.den, .int .i64 A.c.re, .int .i64 A.c.im, .int .i64 A.c.den, .int .i64 A.d.re, .int .i64 A.d.im, .int .i64 A.d.den], .bool u]) ∧ Below _ _ _ := ho.fn; have K1 := Lib.hid (show BX w _ _ [(0, [.int .i64 1, .int .i64 0, .int .i64 1]), (1, [.int .i64 0, .int .i64 0, .int .i64 1]), (3, [.int .i64 1, .int .i64 0, .int .i64 1, .int .i64 0, .int .i64 1, .int .i64 1, .int .i64 (-1), .int .i64 0, .int .i64 1, .int .i64 0, .int .i64 (-1), .int .i64 1]), (w1.heap.size, [.int .i64 r.a.re, .int .i64 r.a.im, .int .i64 r.a.den, .int .i64 r.b.re, .int .i64 r.b.im, .int .i64 r.b.den, .int .i64 r.c.re, .int .i64 r.c.im, .int .i64 r.c.den, .int .i64 r.d.re, .int .i64 r.d.im, .int .i64 r.d.den])] wr2_1 from by first | (with_reducible exact KH.out.drew.next hb) | (with_reducible exact (KH.out.alloc _).drew.next hb)); have f1_r := Lib.hid (show World.rangeAt _ _ _ _ from (K1.out.box (w1.heap.size, [.int .i64 r.a.re, .int .i64 r.a.im, .int .i64 r.a.den, .int .i64 r.b.re, .int .i64 r.b.im, .int .i64 r.b.den, .int .i64 r.c.re, .int .i64 r.c.im, .int .i64 r.c.den, .int .i64 r.d.re, .int .i64 r.d.im, .int .i64 r.d.den]) (by simp)).2); have f1_vone := Lib.hid (show World.rangeAt _ _ _ _ from (K1.out.box (0, [.int .i64 1, .int .i64 0, .int .i64 1]) (by simp)).2); have f1_vzero := Lib.hid (show World.rangeAt _ _ _ _ from (K1.out.box (1, [.int .i64 0, .int .i64 0, .int .i64 1]) (by simp)).2); have f1_vturns := Lib.hid (show World.rangeAt _ _ _ _ from (K1.out.box (3, [.int .i64 1, .int .i64 0, .int .i64 1, .int .i64 0, .int .i64 1, .int .i64 1, .int .i64 (-1), .int .i64 0, .int .i64 1, .int .i64 0, .int .i64 (-1), .int .i64 1]) (by simp)).2); have hzr1 := hb.size; (try simp at hzr1); obtain ⟨BB, hBB, hb⟩ : ∃ B, B = _ ∧ Below B _ _ := ⟨_, rfl, hb⟩; (try simp at hBB); (first | (rcases Nat.lt_or_ge (w1.heap.size + 1) BB with hlt | hlt; rotate_left; (exfalso; omega); have yc := fun q => hb.cell (p := ⟨w1.heap.size + 1, q, none⟩) hlt; have yf := fun q => hb.frozen (p := ⟨w1.heap.size + 1, q, none⟩) hlt; (first | (have RD := Lib.hid (RD.out.below hb hlt)) | (have RD : Hid (Room wr2_1 (w1.heap.size + 1) 4) := (by show Room _ _ _; refine Room.below ?_ hb hlt; first | (with_reducible refine Room.new' ?_ rfl; simp; done) | (with_reducible refine Room.drewF (Room.new' ?_ rfl); simp; done))) | skip); clear hlt) | skip); clear hBB; have KS := Lib.hid (fun (D : Nat) h2 h4 (v0 : Value) (v1 : Value) (v2 : Value) (v3 : Value) (v4 : Value) (v5 : Value) (v6 : Value) (v7 : Value) (v8 : Value) (v9 : Value) (v10 : Value) (v11 : Value) => K1.out.store (D := D) h2 h4 [v0, v1, v2, v3, v4, v5, v6, v7, v8, v9, v10, v11]); have KS := Lib.hid (by have hh := KS.out; simp only [World.setCells, Nat.zero_add, Nat.reduceAdd] at hh; exact hh); have KS_r := Lib.hid (fun (D : Nat) (h2 : w1.heap.size ≠ D) (h4 : w.heap.size ≤ D) (v0 : Value) (v1 : Value) (v2 : Value) (v3 : Value) (v4 : Value) (v5 : Value) (v6 : Value) (v7 : Value) (v8 : Value) (v9 : Value) (v10 : Value) (v11 : Value) => World.rangeAt_setCells_apart (show World.rangeAt wr2_1 (w1.heap.size) 0 [.int .i64 r.a.re, .int .i64 r.a.im, .int .i64 r.a.den, .int .i64 r.b.re, .int .i64 r.b.im, .int .i64 r.b.den, .int .i64 r.c.re, .int .i64 r.c.im, .int .i64 r.c.den, .int .i64 r.d.re, .int .i64 r.d.im, .int .i64 r.d.den] from f1_r.out) D 0 [v0, v1, v2, v3, v4, v5, v6, v7, v8, v9, v10, v11] (Or.inl h2)); have KS_r := Lib.hid (by have hh := KS_r.out; simp only [World.setCells, Nat.zero_add, Nat.reduceAdd] at hh; exact hh); have KS_vone := Lib.hid (fun (D : Nat) (h2 : 0 ≠ D) (h4 : w.heap.size ≤ D) (v0 : Value) (v1 : Value) (v2 : Value) (v3 : Value) (v4 : Value) (v5 : Value) (v6 : Value) (v7 : Value) (v8 : Value) (v9 : Value) (v10 : Value) (v11 : Value) => World.rangeAt_setCells_apart (show World.rangeAt wr2_1 (0) 0 [.int .i64 1, .int .i64 0, .int .i64 1] from f1_vone.out) D 0 [v0, v1, v2, v3, v4, v5, v6, v7, v8, v9, v10, v11] (Or.inl h2)); have KS_vone := Lib.hid (by have hh := KS_vone.out; simp only [World.setCells, Nat.zero_add, Nat.reduceAdd] at hh; exact hh); have KS_vzero := Lib.hid (fun (D : Nat) (h2 : 1 ≠ D) (h4 : w.heap.size ≤ D) (v0 : Value) (v1 : Value) (v2 : Value) (v3 : Value) (v4 : Value) (v5 : Value) (v6 : Value) (v7 : Value) (v8 : Value) (v9 : Value) (v10 : Value) (v11 : Value) => World.rangeAt_setCells_apart (show World.rangeAt wr2_1 (1) 0 [.int .i64 0, .int .i64 0, .int .i64 1] from f1_vzero.out) D 0 [v0, v1, v2, v3, v4, v5, v6, v7, v8, v9, v10, v11] (Or.inl h2)); have KS_vzero := Lib.hid (by have hh := KS_vzero.out; simp only [World.setCells, Nat.zero_add, Nat.reduceAdd] at hh; exact hh); have KS_vturns := Lib.hid (fun (D : Nat) (h2 : 3 ≠ D) (h4 : w.heap.size ≤ D) (v0 : Value) (v1 : Value) (v2 : Value) (v3 : Value) (v4 : Value) (v5 : Value) (v6 : Value) (v7 : Value) (v8 : Value) (v9 : Value) (v10 : Value) (v11 : Value) => World.rangeAt_setCells_apart (show World.rangeAt wr2_1 (3) 0 [.int .i64 1, .int .i64 0, .int .i64 1, .int .i64 0, .int .i64 1, .int .i64 1, .int .i64 (-1), .int .i64 0, .int .i64 1, .int .i64 0, .int .i64 (-1), .int .i64 1] from f1_vturns.out) D 0 [v0, v1, v2, v3, v4, v5, v6, v7, v8, v9, v10, v11] (Or.inl h2)); have KS_vturns := Lib.hid (by have hh := KS_vturns.out; simp only [World.setCells, Nat.zero_add, Nat.reduceAdd] at hh; exact hh); clear ho hb))
          all_goals (go_wp2_with fail; go_meet)
          all_goals (first
              | (refine ⟨w1.heap.size + 1, rfl, rfl, by omega, ?_⟩; have kS := KS.out (w1.heap.size + 1) (by intro e he; simp only [List.mem_cons, List.not_mem_nil, or_false] at he; rcases he with rfl | rfl | rfl | rfl <;> (show _ ≠ _; omega)) (by omega) (.int .i64 A.a.re) (.int .i64 A.a.im) (.int .i64 A.a.den) (.int .i64 A.b.re) (.int .i64 A.b.im) (.int .i64 A.b.den) (.int .i64 A.c.re) (.int .i64 A.c.im) (.int .i64 A.c.den) (.int .i64 A.d.re) (.int .i64 A.d.im) (.int .i64 A.d.den); have hh := fun W h => World.rangeAt_setCells_same W (w1.heap.size + 1) 0 [.int .i64 A.a.re, .int .i64 A.a.im, .int .i64 A.a.den, .int .i64 A.b.re, .int .i64 A.b.im, .int .i64 A.b.den, .int .i64 A.c.re, .int .i64 A.c.im, .int .i64 A.c.den, .int .i64 A.d.re, .int .i64 A.d.im, .int .i64 A.d.den] h; simp only [World.setCells, Nat.zero_add, Nat.reduceAdd] at hh; have hr := hh _ RD.out.there; have hE := RD.out.ltF (by omega); exact kS.add (by simpa using hE) hr)
              | (refine ⟨wr2_1.heap.size, rfl, rfl, by omega, ?_⟩; have kS := K1.out.alloc (.cells #[.int .i64 A.a.re, .int .i64 A.a.im, .int .i64 A.a.den, .int .i64 A.b.re, .int .i64 A.b.im, .int .i64 A.b.den, .int .i64 A.c.re, .int .i64 A.c.im, .int .i64 A.c.den, .int .i64 A.d.re, .int .i64 A.d.im, .int .i64 A.d.den] 41); exact kS.add (by simp) (rangeAt_new _ _ _)))
        case rest =>
        obtain ⟨D2, rfl, rfl, hlo2, KC⟩ := hcut
        obtain ⟨wq2, hwq⟩ : ∃ x, x = wc := ⟨_, rfl⟩
        rw [← hwq] at KC
        rw [← hwq]
        clear hwq
        obtain ⟨hl_aa, hr_aa⟩ := KC.box (D2, [.int .i64 A.a.re, .int .i64 A.a.im, .int .i64 A.a.den, .int .i64 A.b.re, .int .i64 A.b.im, .int .i64 A.b.den, .int .i64 A.c.re, .int .i64 A.c.im, .int .i64 A.c.den, .int .i64 A.d.re, .int .i64 A.d.im, .int .i64 A.d.den]) (by simp)
        have Haa := Lib.hid hr_aa
        clear hr_aa
        obtain ⟨hl_vone, hr_vone⟩ := KC.box (0, [.int .i64 1, .int .i64 0, .int .i64 1]) (by simp)
        have Hvone := Lib.hid hr_vone
        clear hr_vone
        obtain ⟨hl_vzero, hr_vzero⟩ := KC.box (1, [.int .i64 0, .int .i64 0, .int .i64 1]) (by simp)
        have Hvzero := Lib.hid hr_vzero
        clear hr_vzero
        obtain ⟨hl_vturns, hr_vturns⟩ := KC.box (3, [.int .i64 1, .int .i64 0, .int .i64 1, .int .i64 0, .int .i64 1, .int .i64 1, .int .i64 (-1), .int .i64 0, .int .i64 1, .int .i64 0, .int .i64 (-1), .int .i64 1]) (by simp)
        have Hvturns := Lib.hid hr_vturns
        clear hr_vturns
        obtain ⟨hl_r, hr_r⟩ := KC.box (w1.heap.size, [.int .i64 r.a.re, .int .i64 r.a.im, .int .i64 r.a.den, .int .i64 r.b.re, .int .i64 r.b.im, .int .i64 r.b.den, .int .i64 r.c.re, .int .i64 r.c.im, .int .i64 r.c.den, .int .i64 r.d.re, .int .i64 r.d.im, .int .i64 r.d.den]) (by simp)
        have Hr := Lib.hid hr_r
        clear hr_r
        have HB := Lib.hid KC.below
        have HR := Lib.hid KC.room
        have hRl : w.heap.size < wq2.heap.size := by rcases KC.hR with h | h <;> omega
        clear KC KH
        have nA4 : D2 < wq2.heap.size := by first | assumption | omega
        have nB4 : ¬ D2 = wq2.heap.size := by omega
        have nC4 : ¬ wq2.heap.size = D2 := by omega
        have nA0 : 0 < wq2.heap.size := by first | assumption | omega
        have nB0 : ¬ 0 = wq2.heap.size := by omega
        have nC0 : ¬ wq2.heap.size = 0 := by omega
        have nA1 : 1 < wq2.heap.size := by first | assumption | omega
        have nB1 : ¬ 1 = wq2.heap.size := by omega
        have nC1 : ¬ wq2.heap.size = 1 := by omega
        have nA2 : 3 < wq2.heap.size := by first | assumption | omega
        have nB2 : ¬ 3 = wq2.heap.size := by omega
        have nC2 : ¬ wq2.heap.size = 3 := by omega
        have nA5 : w1.heap.size < wq2.heap.size := by first | assumption | omega
        have nB5 : ¬ w1.heap.size = wq2.heap.size := by omega
        have nC5 : ¬ wq2.heap.size = w1.heap.size := by omega
        have nA3 : w.heap.size < wq2.heap.size := by first | assumption | omega
        have nB3 : ¬ w.heap.size = wq2.heap.size := by omega
        have nC3 : ¬ wq2.heap.size = w.heap.size := by omega
        go_wp2_with (first | ((with_reducible refine wpList_load_mid ?kl121 41 ?kl12x ?kl122 (w1.heap.size) 0 ?kl123 [.int .i64 r.a.re, .int .i64 r.a.im, .int .i64 r.a.den, .int .i64 r.b.re, .int .i64 r.b.im, .int .i64 r.b.den, .int .i64 r.c.re, .int .i64 r.c.im, .int .i64 r.c.den, .int .i64 r.d.re, .int .i64 r.d.im, .int .i64 r.d.den] ?kl12d ?kl124 ?kl125 ?kl126 ?kl127 ?kl128); (case kl122 => rfl); (case kl121 => rfl); (case kl123 => rfl); (case kl124 => (exact Hr.out)); (case kl125 => exact Tryd.underlying41); (case kl126 => rfl); (case kl127 => kernel_rfl)))
        refine (imatadj_any r _).mono ?_
        rintro e w3 ho
        rw [HB0.out] at ho
        obtain ⟨rfl, hb⟩ : e = .returned (.tuple #[.agg #[.int .i64 B.a.re, .int .i64 B.a.im, .int .i64 B.a.den, .int .i64 B.b.re, .int .i64 B.b.im, .int .i64 B.b.den, .int .i64 B.c.re, .int .i64 B.c.im, .int .i64 B.c.den, .int .i64 B.d.re, .int .i64 B.d.im, .int .i64 B.d.den], .bool b]) ∧ Below _ _ _ := ho.fn
        clear ho
        have HB := Lib.hid (show Below w.heap.size w w3 from HB.out.trans ((show Below _ _ _ from (Below.refl _ _)).trans (hb.mono (by first | omega | (simp <;> omega)))))
        have Haa : Hid (w3.rangeAt (D2) 0 [.int .i64 A.a.re, .int .i64 A.a.im, .int .i64 A.a.den, .int .i64 A.b.re, .int .i64 A.b.im, .int .i64 A.b.den, .int .i64 A.c.re, .int .i64 A.c.im, .int .i64 A.c.den, .int .i64 A.d.re, .int .i64 A.d.im, .int .i64 A.d.den]) := rangeAt_below Haa.out hb (by first | omega | (simp; done) | (simp <;> omega))
        have Hvone : Hid (w3.rangeAt (0) 0 [.int .i64 1, .int .i64 0, .int .i64 1]) := rangeAt_below Hvone.out hb (by first | omega | (simp; done) | (simp <;> omega))
        have Hvzero : Hid (w3.rangeAt (1) 0 [.int .i64 0, .int .i64 0, .int .i64 1]) := rangeAt_below Hvzero.out hb (by first | omega | (simp; done) | (simp <;> omega))
        have Hvturns : Hid (w3.rangeAt (3) 0 [.int .i64 1, .int .i64 0, .int .i64 1, .int .i64 0, .int .i64 1, .int .i64 1, .int .i64 (-1), .int .i64 0, .int .i64 1, .int .i64 0, .int .i64 (-1), .int .i64 1]) := rangeAt_below Hvturns.out hb (by first | omega | (simp; done) | (simp <;> omega))
        have Hr : Hid (w3.rangeAt (w1.heap.size) 0 [.int .i64 r.a.re, .int .i64 r.a.im, .int .i64 r.a.den, .int .i64 r.b.re, .int .i64 r.b.im, .int .i64 r.b.den, .int .i64 r.c.re, .int .i64 r.c.im, .int .i64 r.c.den, .int .i64 r.d.re, .int .i64 r.d.im, .int .i64 r.d.den]) := rangeAt_below Hr.out hb (by first | omega | (simp; done) | (simp <;> omega))
        have HR := Lib.hid ((show Room _ (w.heap.size) 4 from HR.out).below hb (by first | omega | (simp <;> omega)))
        have hz3 := hb.size
        (try simp at hz3)
        clear hb
        have hne3 : ¬ w3.heap = #[] := fun h => absurd (show 0 < 0 from (by have hh : 0 < w3.heap.size := (by omega); rw [h] at hh; exact hh)) (Nat.not_lt_zero _)
        have nA4 : D2 < w3.heap.size := by omega
        have nB4 : ¬ D2 = w3.heap.size := by omega
        have nC4 : ¬ w3.heap.size = D2 := by omega
        have nA0 : 0 < w3.heap.size := by omega
        have nB0 : ¬ 0 = w3.heap.size := by omega
        have nC0 : ¬ w3.heap.size = 0 := by omega
        have nA1 : 1 < w3.heap.size := by omega
        have nB1 : ¬ 1 = w3.heap.size := by omega
        have nC1 : ¬ w3.heap.size = 1 := by omega
        have nA2 : 3 < w3.heap.size := by omega
        have nB2 : ¬ 3 = w3.heap.size := by omega
        have nC2 : ¬ w3.heap.size = 3 := by omega
        have nA5 : w1.heap.size < w3.heap.size := by omega
        have nB5 : ¬ w1.heap.size = w3.heap.size := by omega
        have nC5 : ¬ w3.heap.size = w1.heap.size := by omega
        have nA3 : w.heap.size < w3.heap.size := by omega
        have nB3 : ¬ w.heap.size = w3.heap.size := by omega
        have nC3 : ¬ w3.heap.size = w.heap.size := by omega
        go_wp2_with (first | ((with_reducible refine wpList_load_mid ?kl131 41 ?kl13x ?kl132 (D2) 0 ?kl133 [.int .i64 A.a.re, .int .i64 A.a.im, .int .i64 A.a.den, .int .i64 A.b.re, .int .i64 A.b.im, .int .i64 A.b.den, .int .i64 A.c.re, .int .i64 A.c.im, .int .i64 A.c.den, .int .i64 A.d.re, .int .i64 A.d.im, .int .i64 A.d.den] ?kl13d ?kl134 ?kl135 ?kl136 ?kl137 ?kl138); (case kl132 => rfl); (case kl131 => rfl); (case kl133 => rfl); (case kl134 => (exact (World.rangeAt_alloc Haa.out _))); (case kl135 => exact Tryd.underlying41); (case kl136 => rfl); (case kl137 => kernel_rfl)) | ((with_reducible refine wpList_load_mid ?kl141 41 ?kl14x ?kl142 (w3.heap.size) 0 ?kl143 [.int .i64 B.a.re, .int .i64 B.a.im, .int .i64 B.a.den, .int .i64 B.b.re, .int .i64 B.b.im, .int .i64 B.b.den, .int .i64 B.c.re, .int .i64 B.c.im, .int .i64 B.c.den, .int .i64 B.d.re, .int .i64 B.d.im, .int .i64 B.d.den] ?kl14d ?kl144 ?kl145 ?kl146 ?kl147 ?kl148); (case kl142 => rfl); (case kl141 => rfl); (case kl143 => rfl); (case kl144 => (exact (rangeAt_new _ _ _))); (case kl145 => exact Tryd.underlying41); (case kl146 => rfl); (case kl147 => kernel_rfl)))
        refine (imtm_m A B _).mono ?_
        rintro e w4 ho
        rw [HC0.out] at ho
        obtain ⟨rfl, hb⟩ : e = .returned (.tuple #[.agg #[.int .i64 C.a.re, .int .i64 C.a.im, .int .i64 C.a.den, .int .i64 C.b.re, .int .i64 C.b.im, .int .i64 C.b.den, .int .i64 C.c.re, .int .i64 C.c.im, .int .i64 C.c.den, .int .i64 C.d.re, .int .i64 C.d.im, .int .i64 C.d.den], .bool v]) ∧ Below _ _ _ := ho.fn
        clear ho
        have HB := Lib.hid (show Below w.heap.size w w4 from HB.out.trans ((show Below _ _ _ from ((Below.refl _ _).alloc (by first | omega | (simp; done) | (simp <;> omega)) _)).trans (hb.mono (by first | omega | (simp <;> omega)))))
        have Haa : Hid (w4.rangeAt (D2) 0 [.int .i64 A.a.re, .int .i64 A.a.im, .int .i64 A.a.den, .int .i64 A.b.re, .int .i64 A.b.im, .int .i64 A.b.den, .int .i64 A.c.re, .int .i64 A.c.im, .int .i64 A.c.den, .int .i64 A.d.re, .int .i64 A.d.im, .int .i64 A.d.den]) := rangeAt_below (World.rangeAt_alloc Haa.out _) hb (by first | omega | (simp; done) | (simp <;> omega))
        have Hvone : Hid (w4.rangeAt (0) 0 [.int .i64 1, .int .i64 0, .int .i64 1]) := rangeAt_below (World.rangeAt_alloc Hvone.out _) hb (by first | omega | (simp; done) | (simp <;> omega))
        have Hvzero : Hid (w4.rangeAt (1) 0 [.int .i64 0, .int .i64 0, .int .i64 1]) := rangeAt_below (World.rangeAt_alloc Hvzero.out _) hb (by first | omega | (simp; done) | (simp <;> omega))
        have Hvturns : Hid (w4.rangeAt (3) 0 [.int .i64 1, .int .i64 0, .int .i64 1, .int .i64 0, .int .i64 1, .int .i64 1, .int .i64 (-1), .int .i64 0, .int .i64 1, .int .i64 0, .int .i64 (-1), .int .i64 1]) := rangeAt_below (World.rangeAt_alloc Hvturns.out _) hb (by first | omega | (simp; done) | (simp <;> omega))
        have Hr : Hid (w4.rangeAt (w1.heap.size) 0 [.int .i64 r.a.re, .int .i64 r.a.im, .int .i64 r.a.den, .int .i64 r.b.re, .int .i64 r.b.im, .int .i64 r.b.den, .int .i64 r.c.re, .int .i64 r.c.im, .int .i64 r.c.den, .int .i64 r.d.re, .int .i64 r.d.im, .int .i64 r.d.den]) := rangeAt_below (World.rangeAt_alloc Hr.out _) hb (by first | omega | (simp; done) | (simp <;> omega))
        have HR := Lib.hid ((show Room _ (w.heap.size) 4 from (HR.out.alloc (by first | omega | (simp; done) | (simp <;> omega)) _)).below hb (by first | omega | (simp <;> omega)))
        have Hbb : Hid (w4.rangeAt (w3.heap.size) 0 [.int .i64 B.a.re, .int .i64 B.a.im, .int .i64 B.a.den, .int .i64 B.b.re, .int .i64 B.b.im, .int .i64 B.b.den, .int .i64 B.c.re, .int .i64 B.c.im, .int .i64 B.c.den, .int .i64 B.d.re, .int .i64 B.d.im, .int .i64 B.d.den]) := rangeAt_below (rangeAt_new _ _ _) hb (by first | omega | (simp; done) | (simp <;> omega))
        have hz4 := hb.size
        (try simp at hz4)
        clear hb
        have hne4 : ¬ w4.heap = #[] := fun h => absurd (show 0 < 0 from (by have hh : 0 < w4.heap.size := (by omega); rw [h] at hh; exact hh)) (Nat.not_lt_zero _)
        have nA4 : D2 < w4.heap.size := by omega
        have nB4 : ¬ D2 = w4.heap.size := by omega
        have nC4 : ¬ w4.heap.size = D2 := by omega
        have nA0 : 0 < w4.heap.size := by omega
        have nB0 : ¬ 0 = w4.heap.size := by omega
        have nC0 : ¬ w4.heap.size = 0 := by omega
        have nA1 : 1 < w4.heap.size := by omega
        have nB1 : ¬ 1 = w4.heap.size := by omega
        have nC1 : ¬ w4.heap.size = 1 := by omega
        have nA2 : 3 < w4.heap.size := by omega
        have nB2 : ¬ 3 = w4.heap.size := by omega
        have nC2 : ¬ w4.heap.size = 3 := by omega
        have nA5 : w1.heap.size < w4.heap.size := by omega
        have nB5 : ¬ w1.heap.size = w4.heap.size := by omega
        have nC5 : ¬ w4.heap.size = w1.heap.size := by omega
        have nA6 : w3.heap.size < w4.heap.size := by omega
        have nB6 : ¬ w3.heap.size = w4.heap.size := by omega
        have nC6 : ¬ w4.heap.size = w3.heap.size := by omega
        have nA3 : w.heap.size < w4.heap.size := by omega
        have nB3 : ¬ w.heap.size = w4.heap.size := by omega
        have nC3 : ¬ w4.heap.size = w.heap.size := by omega
        cases u
        · skip
          have HG : Hid (gPla p q 0 = (m4z, false)) := HGg.out
          clear HGg
          have hth := (show Room (w4.alloc (.cells #[.int .i64 C.a.re, .int .i64 C.a.im, .int .i64 C.a.den, .int .i64 C.b.re, .int .i64 C.b.im, .int .i64 C.b.den, .int .i64 C.c.re, .int .i64 C.c.im, .int .i64 C.c.den, .int .i64 C.d.re, .int .i64 C.d.im, .int .i64 C.d.den] 41)) (w.heap.size) 4 from (HR.out.alloc (by first | omega | (simp; done) | (simp <;> omega)) _)).there
          go_wp2_with (first | ((with_reducible refine wpList_store_mid ?kl151 41 ?kl15x ?kl15y ?kl152 (w.heap.size) 0 #[.int .i64 0, .int .i64 0, .int .i64 0, .int .i64 0, .int .i64 0, .int .i64 0, .int .i64 0, .int .i64 0, .int .i64 0, .int .i64 0, .int .i64 0, .int .i64 0] ?kl153 ?kl154 ?kl155 ?kl156 ?kl157 ?kl158); (case kl152 => rfl); (case kl151 => rfl); (case kl153 => rfl); (case kl154 => rfl); (case kl155 => exact hth); (case kl156 => kernel_rfl); (case kl157 => exact (by simp [Value.oneCell']))))
          refine bodyPost_ret (v := .tuple #[.agg #[.int .i64 0, .int .i64 0, .int .i64 0, .int .i64 0, .int .i64 0, .int .i64 0, .int .i64 0, .int .i64 0, .int .i64 0, .int .i64 0, .int .i64 0, .int .i64 0], .bool false]) ?_ rfl (M4Out.no HG.out ?_)
          · exact Eq.trans (results_cell_mid2 Tryd.results50 _ _ (w.heap.size) [.int .i64 0, .int .i64 0, .int .i64 0, .int .i64 0, .int .i64 0, .int .i64 0, .int .i64 0, .int .i64 0, .int .i64 0, .int .i64 0, .int .i64 0, .int .i64 0] _ (by rfl) (World.rangeAt_setCells_same _ (w.heap.size) 0 [.int .i64 0, .int .i64 0, .int .i64 0, .int .i64 0, .int .i64 0, .int .i64 0, .int .i64 0, .int .i64 0, .int .i64 0, .int .i64 0, .int .i64 0, .int .i64 0] hth) Tryd.underlying41 rfl (by kernel_rfl)) rfl
          · (repeat' first | (with_reducible exact HB.out) | with_reducible refine setCells_below _ _ _ ?_ (by first | omega | (simp <;> omega)) | with_reducible refine Below.setCell ?_ (by show _ ≤ _; first | omega | (simp <;> omega) | simp) _ | with_reducible refine Below.alloc ?_ (by first | omega | (simp <;> omega)) _ | with_reducible apply Below.drew | with_reducible refine below_drewN ?_ _)
        · cases v
          · skip
            have HG : Hid (gPla p q 0 = (m4z, false)) := HGg.out
            clear HGg
            have hth := (show Room (w4.alloc (.cells #[.int .i64 C.a.re, .int .i64 C.a.im, .int .i64 C.a.den, .int .i64 C.b.re, .int .i64 C.b.im, .int .i64 C.b.den, .int .i64 C.c.re, .int .i64 C.c.im, .int .i64 C.c.den, .int .i64 C.d.re, .int .i64 C.d.im, .int .i64 C.d.den] 41)) (w.heap.size) 4 from (HR.out.alloc (by first | omega | (simp; done) | (simp <;> omega)) _)).there
            go_wp2_with (first | ((with_reducible refine wpList_store_mid ?kl161 41 ?kl16x ?kl16y ?kl162 (w.heap.size) 0 #[.int .i64 0, .int .i64 0, .int .i64 0, .int .i64 0, .int .i64 0, .int .i64 0, .int .i64 0, .int .i64 0, .int .i64 0, .int .i64 0, .int .i64 0, .int .i64 0] ?kl163 ?kl164 ?kl165 ?kl166 ?kl167 ?kl168); (case kl162 => rfl); (case kl161 => rfl); (case kl163 => rfl); (case kl164 => rfl); (case kl165 => exact hth); (case kl166 => kernel_rfl); (case kl167 => exact (by simp [Value.oneCell']))))
            refine bodyPost_ret (v := .tuple #[.agg #[.int .i64 0, .int .i64 0, .int .i64 0, .int .i64 0, .int .i64 0, .int .i64 0, .int .i64 0, .int .i64 0, .int .i64 0, .int .i64 0, .int .i64 0, .int .i64 0], .bool false]) ?_ rfl (M4Out.no HG.out ?_)
            · exact Eq.trans (results_cell_mid2 Tryd.results50 _ _ (w.heap.size) [.int .i64 0, .int .i64 0, .int .i64 0, .int .i64 0, .int .i64 0, .int .i64 0, .int .i64 0, .int .i64 0, .int .i64 0, .int .i64 0, .int .i64 0, .int .i64 0] _ (by rfl) (World.rangeAt_setCells_same _ (w.heap.size) 0 [.int .i64 0, .int .i64 0, .int .i64 0, .int .i64 0, .int .i64 0, .int .i64 0, .int .i64 0, .int .i64 0, .int .i64 0, .int .i64 0, .int .i64 0, .int .i64 0] hth) Tryd.underlying41 rfl (by kernel_rfl)) rfl
            · (repeat' first | (with_reducible exact HB.out) | with_reducible refine setCells_below _ _ _ ?_ (by first | omega | (simp <;> omega)) | with_reducible refine Below.setCell ?_ (by show _ ≤ _; first | omega | (simp <;> omega) | simp) _ | with_reducible refine Below.alloc ?_ (by first | omega | (simp <;> omega)) _ | with_reducible apply Below.drew | with_reducible refine below_drewN ?_ _)
          · skip
            have HG : Hid (gPla p q 0 = (C, true)) := HGg.out
            clear HGg
            have hth := (show Room (w4.alloc (.cells #[.int .i64 C.a.re, .int .i64 C.a.im, .int .i64 C.a.den, .int .i64 C.b.re, .int .i64 C.b.im, .int .i64 C.b.den, .int .i64 C.c.re, .int .i64 C.c.im, .int .i64 C.c.den, .int .i64 C.d.re, .int .i64 C.d.im, .int .i64 C.d.den] 41)) (w.heap.size) 4 from (HR.out.alloc (by first | omega | (simp; done) | (simp <;> omega)) _)).there
            go_wp2_with (first | (first | ((with_reducible refine wpList_load_mid ?kl171 41 ?kl17x ?kl172 (w4.heap.size) 0 ?kl173 [.int .i64 C.a.re, .int .i64 C.a.im, .int .i64 C.a.den, .int .i64 C.b.re, .int .i64 C.b.im, .int .i64 C.b.den, .int .i64 C.c.re, .int .i64 C.c.im, .int .i64 C.c.den, .int .i64 C.d.re, .int .i64 C.d.im, .int .i64 C.d.den] ?kl17d ?kl174 ?kl175 ?kl176 ?kl177 ?kl178); (case kl172 => rfl); (case kl171 => rfl); (case kl173 => rfl); (case kl174 => (exact (rangeAt_new _ _ _))); (case kl175 => exact Tryd.underlying41); (case kl176 => rfl); (case kl177 => kernel_rfl))) | ((with_reducible refine wpList_store_mid ?kl181 41 ?kl18x ?kl18y ?kl182 (w.heap.size) 0 #[.int .i64 C.a.re, .int .i64 C.a.im, .int .i64 C.a.den, .int .i64 C.b.re, .int .i64 C.b.im, .int .i64 C.b.den, .int .i64 C.c.re, .int .i64 C.c.im, .int .i64 C.c.den, .int .i64 C.d.re, .int .i64 C.d.im, .int .i64 C.d.den] ?kl183 ?kl184 ?kl185 ?kl186 ?kl187 ?kl188); (case kl182 => rfl); (case kl181 => rfl); (case kl183 => rfl); (case kl184 => rfl); (case kl185 => exact hth); (case kl186 => kernel_rfl); (case kl187 => exact (by simp [Value.oneCell']))))
            refine bodyPost_ret (v := .tuple #[.agg #[.int .i64 C.a.re, .int .i64 C.a.im, .int .i64 C.a.den, .int .i64 C.b.re, .int .i64 C.b.im, .int .i64 C.b.den, .int .i64 C.c.re, .int .i64 C.c.im, .int .i64 C.c.den, .int .i64 C.d.re, .int .i64 C.d.im, .int .i64 C.d.den], .bool true]) ?_ rfl (M4Out.yes (f := C) (by rw [HG.out]) (by rw [HG.out]) ?_)
            · exact Eq.trans (results_cell_mid2 Tryd.results50 _ _ (w.heap.size) [.int .i64 C.a.re, .int .i64 C.a.im, .int .i64 C.a.den, .int .i64 C.b.re, .int .i64 C.b.im, .int .i64 C.b.den, .int .i64 C.c.re, .int .i64 C.c.im, .int .i64 C.c.den, .int .i64 C.d.re, .int .i64 C.d.im, .int .i64 C.d.den] _ (by rfl) (World.rangeAt_setCells_same _ (w.heap.size) 0 [.int .i64 C.a.re, .int .i64 C.a.im, .int .i64 C.a.den, .int .i64 C.b.re, .int .i64 C.b.im, .int .i64 C.b.den, .int .i64 C.c.re, .int .i64 C.c.im, .int .i64 C.c.den, .int .i64 C.d.re, .int .i64 C.d.im, .int .i64 C.d.den] hth) Tryd.underlying41 rfl (by kernel_rfl)) rfl
            · (repeat' first | (with_reducible exact HB.out) | with_reducible refine setCells_below _ _ _ ?_ (by first | omega | (simp <;> omega)) | with_reducible refine Below.setCell ?_ (by show _ ≤ _; first | omega | (simp <;> omega) | simp) _ | with_reducible refine Below.alloc ?_ (by first | omega | (simp <;> omega)) _ | with_reducible apply Below.drew | with_reducible refine below_drewN ?_ _)
      · skip
        have HA0 : Hid (mTm r ⟨⟨1, 0, 1⟩, ⟨0, 0, 1⟩, ⟨0, 0, 1⟩, ⟨0, 1, 1⟩⟩ = (A, u)) := HA0.out
        have ia : (0 : Int) ≤ 1 := by omega
        have ib : (1 : Int) < 4 := by omega
        have HB : Hid (Below w.heap.size w w) := Below.refl _ _
        have hlt_one := hg_one.lt
        have Hvone : Hid (w.rangeAt 0 0 [.int .i64 1, .int .i64 0, .int .i64 1]) := by show World.rangeAt _ _ _ _; exact rangeOf1 hg_one.box
        have hlt_zero := hg_zero.lt
        have Hvzero : Hid (w.rangeAt 1 0 [.int .i64 0, .int .i64 0, .int .i64 1]) := by show World.rangeAt _ _ _ _; exact rangeOf1 hg_zero.box
        have hlt_turns := hg_turns.lt
        have Hvturns : Hid (w.rangeAt 3 0 [.int .i64 1, .int .i64 0, .int .i64 1, .int .i64 0, .int .i64 1, .int .i64 1, .int .i64 (-1), .int .i64 0, .int .i64 1, .int .i64 0, .int .i64 (-1), .int .i64 1]) := by show World.rangeAt _ _ _ _; exact BoxAt.range4 hg_turns.box
        have HG_one := Lib.hid hg_one; clear hg_one
        have HG_zero := Lib.hid hg_zero; clear hg_zero
        have HG_turns := Lib.hid hg_turns; clear hg_turns
        go_enter Tryd.func50, Tryd.ntmps50
        go_wp2_with fail
        refine (irot_any p q _).mono ?_
        rintro e w1 ho
        rw [HR0.out] at ho
        obtain ⟨rfl, hb⟩ : e = .returned (.tuple #[.agg #[.int .i64 r.a.re, .int .i64 r.a.im, .int .i64 r.a.den, .int .i64 r.b.re, .int .i64 r.b.im, .int .i64 r.b.den, .int .i64 r.c.re, .int .i64 r.c.im, .int .i64 r.c.den, .int .i64 r.d.re, .int .i64 r.d.im, .int .i64 r.d.den], .bool true]) ∧ Below _ _ _ := ho.fn
        clear ho
        have HB := Lib.hid (show Below w.heap.size w w1 from HB.out.trans ((show Below _ _ _ from ((Below.refl _ _).alloc (by first | omega | (simp; done) | (simp <;> omega)) _)).trans (hb.mono (by first | omega | (simp <;> omega)))))
        have Hvone : Hid (w1.rangeAt (0) 0 [.int .i64 1, .int .i64 0, .int .i64 1]) := rangeAt_below (World.rangeAt_alloc Hvone.out _) hb (by first | omega | (simp; done) | (simp <;> omega))
        have Hvzero : Hid (w1.rangeAt (1) 0 [.int .i64 0, .int .i64 0, .int .i64 1]) := rangeAt_below (World.rangeAt_alloc Hvzero.out _) hb (by first | omega | (simp; done) | (simp <;> omega))
        have Hvturns : Hid (w1.rangeAt (3) 0 [.int .i64 1, .int .i64 0, .int .i64 1, .int .i64 0, .int .i64 1, .int .i64 1, .int .i64 (-1), .int .i64 0, .int .i64 1, .int .i64 0, .int .i64 (-1), .int .i64 1]) := rangeAt_below (World.rangeAt_alloc Hvturns.out _) hb (by first | omega | (simp; done) | (simp <;> omega))
        have HR := Lib.hid ((show Room _ (w.heap.size) 4 from (Room.new' rfl rfl)).below hb (by first | omega | (simp <;> omega)))
        have hz1 := hb.size
        (try simp at hz1)
        clear hb
        have hne1 : ¬ w1.heap = #[] := fun h => absurd (show 0 < 0 from (by have hh : 0 < w1.heap.size := (by omega); rw [h] at hh; exact hh)) (Nat.not_lt_zero _)
        have nA0 : 0 < w1.heap.size := by omega
        have nB0 : ¬ 0 = w1.heap.size := by omega
        have nC0 : ¬ w1.heap.size = 0 := by omega
        have nA1 : 1 < w1.heap.size := by omega
        have nB1 : ¬ 1 = w1.heap.size := by omega
        have nC1 : ¬ w1.heap.size = 1 := by omega
        have nA2 : 3 < w1.heap.size := by omega
        have nB2 : ¬ 3 = w1.heap.size := by omega
        have nC2 : ¬ w1.heap.size = 3 := by omega
        have nA3 : w.heap.size < w1.heap.size := by omega
        have nB3 : ¬ w.heap.size = w1.heap.size := by omega
        have nC3 : ¬ w1.heap.size = w.heap.size := by omega
        have KH : Hid (BX w (w.heap.size) 4 [(0, [.int .i64 1, .int .i64 0, .int .i64 1]), (1, [.int .i64 0, .int .i64 0, .int .i64 1]), (3, [.int .i64 1, .int .i64 0, .int .i64 1, .int .i64 0, .int .i64 1, .int .i64 1, .int .i64 (-1), .int .i64 0, .int .i64 1, .int .i64 0, .int .i64 (-1), .int .i64 1]), (w1.heap.size, [.int .i64 r.a.re, .int .i64 r.a.im, .int .i64 r.a.den, .int .i64 r.b.re, .int .i64 r.b.im, .int .i64 r.b.den, .int .i64 r.c.re, .int .i64 r.c.im, .int .i64 r.c.den, .int .i64 r.d.re, .int .i64 r.d.im, .int .i64 r.d.den])] (w1.alloc (.cells #[.int .i64 r.a.re, .int .i64 r.a.im, .int .i64 r.a.den, .int .i64 r.b.re, .int .i64 r.b.im, .int .i64 r.b.den, .int .i64 r.c.re, .int .i64 r.c.im, .int .i64 r.c.den, .int .i64 r.d.re, .int .i64 r.d.im, .int .i64 r.d.den] 41))) := by
          show BX _ _ _ _ _
          refine ⟨(Below.alloc HB.out (by first | omega | (simp; done) | (simp <;> omega)) _), Or.inl (by first | omega | (simp <;> omega)), (HR.out.alloc (by first | omega | (simp; done) | (simp <;> omega)) _), ?_⟩
          intro e he
          simp only [List.mem_cons, List.not_mem_nil, or_false] at he
          rcases he with rfl | rfl | rfl | rfl
          · exact ⟨by first | (show 0 < _; omega) | (show 0 < _; simp; done) | (show 0 < _; simp <;> omega), (World.rangeAt_alloc Hvone.out _)⟩
          · exact ⟨by first | (show 1 < _; omega) | (show 1 < _; simp; done) | (show 1 < _; simp <;> omega), (World.rangeAt_alloc Hvzero.out _)⟩
          · exact ⟨by first | (show 3 < _; omega) | (show 3 < _; simp; done) | (show 3 < _; simp <;> omega), (World.rangeAt_alloc Hvturns.out _)⟩
          · exact ⟨by first | (show w1.heap.size < _; omega) | (show w1.heap.size < _; simp; done) | (show w1.heap.size < _; simp <;> omega), (rangeAt_new _ _ _)⟩
        have hsz3 : w1.heap.size + 1 ≤ w1.heap.size + 1 := Nat.le_refl _
        go_upto_region 4 with (go_at_call 63; (with_reducible refine (within_b HK.out _).mono ?_); rintro e w' ⟨rfl, rfl⟩)
        go_cut [10, 11] (fun s10 s11 wx => ∃ D : Nat, s10 = .pointer (some ⟨D, 0, none⟩) ∧ s11 = .bool u ∧ w1.heap.size ≤ D ∧ BX w (w.heap.size) 4 ((D, [.int .i64 A.a.re, .int .i64 A.a.im, .int .i64 A.a.den, .int .i64 A.b.re, .int .i64 A.b.im, .int .i64 A.b.den, .int .i64 A.c.re, .int .i64 A.c.im, .int .i64 A.c.den, .int .i64 A.d.re, .int .i64 A.d.im, .int .i64 A.d.den]) :: [(0, [.int .i64 1, .int .i64 0, .int .i64 1]), (1, [.int .i64 0, .int .i64 0, .int .i64 1]), (3, [.int .i64 1, .int .i64 0, .int .i64 1, .int .i64 0, .int .i64 1, .int .i64 1, .int .i64 (-1), .int .i64 0, .int .i64 1, .int .i64 0, .int .i64 (-1), .int .i64 1]), (w1.heap.size, [.int .i64 r.a.re, .int .i64 r.a.im, .int .i64 r.a.den, .int .i64 r.b.re, .int .i64 r.b.im, .int .i64 r.b.den, .int .i64 r.c.re, .int .i64 r.c.im, .int .i64 r.c.den, .int .i64 r.d.re, .int .i64 r.d.im, .int .i64 r.d.den])]) wx)
        case first =>
          have f0_r := Lib.hid (show World.rangeAt _ _ _ _ from (KH.out.drew.box (w1.heap.size, [.int .i64 r.a.re, .int .i64 r.a.im, .int .i64 r.a.den, .int .i64 r.b.re, .int .i64 r.b.im, .int .i64 r.b.den, .int .i64 r.c.re, .int .i64 r.c.im, .int .i64 r.c.den, .int .i64 r.d.re, .int .i64 r.d.im, .int .i64 r.d.den]) (by simp)).2)
          have f0_vone := Lib.hid (show World.rangeAt _ _ _ _ from (KH.out.drew.box (0, [.int .i64 1, .int .i64 0, .int .i64 1]) (by simp)).2)
          have f0_vzero := Lib.hid (show World.rangeAt _ _ _ _ from (KH.out.drew.box (1, [.int .i64 0, .int .i64 0, .int .i64 1]) (by simp)).2)
          have f0_vturns := Lib.hid (show World.rangeAt _ _ _ _ from (KH.out.drew.box (3, [.int .i64 1, .int .i64 0, .int .i64 1, .int .i64 0, .int .i64 1, .int .i64 1, .int .i64 (-1), .int .i64 0, .int .i64 1, .int .i64 0, .int .i64 (-1), .int .i64 1]) (by simp)).2)
          have h0_r := Lib.hid (fun z => show World.rangeAt _ _ _ _ from ((KH.out.alloc z).drew.box (w1.heap.size, [.int .i64 r.a.re, .int .i64 r.a.im, .int .i64 r.a.den, .int .i64 r.b.re, .int .i64 r.b.im, .int .i64 r.b.den, .int .i64 r.c.re, .int .i64 r.c.im, .int .i64 r.c.den, .int .i64 r.d.re, .int .i64 r.d.im, .int .i64 r.d.den]) (by simp)).2)
          have h0_vone := Lib.hid (fun z => show World.rangeAt _ _ _ _ from ((KH.out.alloc z).drew.box (0, [.int .i64 1, .int .i64 0, .int .i64 1]) (by simp)).2)
          have h0_vzero := Lib.hid (fun z => show World.rangeAt _ _ _ _ from ((KH.out.alloc z).drew.box (1, [.int .i64 0, .int .i64 0, .int .i64 1]) (by simp)).2)
          have h0_vturns := Lib.hid (fun z => show World.rangeAt _ _ _ _ from ((KH.out.alloc z).drew.box (3, [.int .i64 1, .int .i64 0, .int .i64 1, .int .i64 0, .int .i64 1, .int .i64 1, .int .i64 (-1), .int .i64 0, .int .i64 1, .int .i64 0, .int .i64 (-1), .int .i64 1]) (by simp)).2)
          go_region_held3 (fun w' => (w'.cell? ⟨w1.heap.size, 0, none⟩ = some (.int .i64 r.a.re) ∧ w'.cell? ⟨w1.heap.size, 1, none⟩ = some (.int .i64 r.a.im) ∧ w'.cell? ⟨w1.heap.size, 2, none⟩ = some (.int .i64 r.a.den) ∧ w'.cell? ⟨w1.heap.size, 3, none⟩ = some (.int .i64 r.b.re) ∧ w'.cell? ⟨w1.heap.size, 4, none⟩ = some (.int .i64 r.b.im) ∧ w'.cell? ⟨w1.heap.size, 5, none⟩ = some (.int .i64 r.b.den) ∧ w'.cell? ⟨w1.heap.size, 6, none⟩ = some (.int .i64 r.c.re) ∧ w'.cell? ⟨w1.heap.size, 7, none⟩ = some (.int .i64 r.c.im) ∧ w'.cell? ⟨w1.heap.size, 8, none⟩ = some (.int .i64 r.c.den) ∧ w'.cell? ⟨w1.heap.size, 9, none⟩ = some (.int .i64 r.d.re) ∧ w'.cell? ⟨w1.heap.size, 10, none⟩ = some (.int .i64 r.d.im) ∧ w'.cell? ⟨w1.heap.size, 11, none⟩ = some (.int .i64 r.d.den)) ∧ (w'.cell? ⟨0, 0, none⟩ = some (.int .i64 1) ∧ w'.cell? ⟨0, 1, none⟩ = some (.int .i64 0) ∧ w'.cell? ⟨0, 2, none⟩ = some (.int .i64 1)) ∧ (w'.cell? ⟨1, 0, none⟩ = some (.int .i64 0) ∧ w'.cell? ⟨1, 1, none⟩ = some (.int .i64 0) ∧ w'.cell? ⟨1, 2, none⟩ = some (.int .i64 1)) ∧ (w'.cell? ⟨3, 0, none⟩ = some (.int .i64 1) ∧ w'.cell? ⟨3, 1, none⟩ = some (.int .i64 0) ∧ w'.cell? ⟨3, 2, none⟩ = some (.int .i64 1) ∧ w'.cell? ⟨3, 3, none⟩ = some (.int .i64 0) ∧ w'.cell? ⟨3, 4, none⟩ = some (.int .i64 1) ∧ w'.cell? ⟨3, 5, none⟩ = some (.int .i64 1) ∧ w'.cell? ⟨3, 6, none⟩ = some (.int .i64 (-1)) ∧ w'.cell? ⟨3, 7, none⟩ = some (.int .i64 0) ∧ w'.cell? ⟨3, 8, none⟩ = some (.int .i64 1) ∧ w'.cell? ⟨3, 9, none⟩ = some (.int .i64 0) ∧ w'.cell? ⟨3, 10, none⟩ = some (.int .i64 (-1)) ∧ w'.cell? ⟨3, 11, none⟩ = some (.int .i64 1))) (((try dsimp only); (first | (with_reducible exact ⟨cellsM (f0_r.out), cellsF (f0_vone.out), cellsF (f0_vzero.out), cellsM (f0_vturns.out)⟩) | (with_reducible exact ⟨cellsM (h0_r.out _), cellsF (h0_vone.out _), cellsF (h0_vzero.out _), cellsM (h0_vturns.out _)⟩) | (with_reducible exact ⟨cellsM (f1_r.out), cellsF (f1_vone.out), cellsF (f1_vzero.out), cellsM (f1_vturns.out)⟩) | (with_reducible exact ⟨cellsM (World.rangeAt_alloc f1_r.out _), cellsF (World.rangeAt_alloc f1_vone.out _), cellsF (World.rangeAt_alloc f1_vzero.out _), cellsM (World.rangeAt_alloc f1_vturns.out _)⟩) | (with_reducible exact ⟨cellsM (KS_r.out _ (by omega) (by omega) _ _ _ _ _ _ _ _ _ _ _ _), cellsF (KS_vone.out _ (by omega) (by omega) _ _ _ _ _ _ _ _ _ _ _ _), cellsF (KS_vzero.out _ (by omega) (by omega) _ _ _ _ _ _ _ _ _ _ _ _), cellsM (KS_vturns.out _ (by omega) (by omega) _ _ _ _ _ _ _ _ _ _ _ _)⟩)))) (first | (go_at_call 53; (with_reducible refine (imtm_m r ⟨⟨1, 0, 1⟩, ⟨0, 0, 1⟩, ⟨0, 0, 1⟩, ⟨0, 1, 1⟩⟩ _).mono ?_); rintro e wr3_1 ho; rw [HA0.out] at ho; obtain ⟨rfl, hb⟩ : e = .returned (.tuple #[.agg #[.int .i64 A.a.re, .int .i64 A.a.im, .int .i64 A.a.den, .int .i64 A.b.re, .int .i64 A.b.im, .int .i64 A.b.den, .int .i64 A.c.re, .int .i64 A.c.im, .int .i64 A.c.den, .int .i64 A.d.re, .int .i64 A.d.im, .int .i64 A.d.den], .bool u]) ∧ Below _ _ _ := ho.fn; have K1 := Lib.hid (show BX w _ _ [(0, [.int .i64 1, .int .i64 0, .int .i64 1]), (1, [.int .i64 0, .int .i64 0, .int .i64 1]), (3, [.int .i64 1, .int .i64 0, .int .i64 1, .int .i64 0, .int .i64 1, .int .i64 1, .int .i64 (-1), .int .i64 0, .int .i64 1, .int .i64 0, .int .i64 (-1), .int .i64 1]), (w1.heap.size, [.int .i64 r.a.re, .int .i64 r.a.im, .int .i64 r.a.den, .int .i64 r.b.re, .int .i64 r.b.im, .int .i64 r.b.den, .int .i64 r.c.re, .int .i64 r.c.im, .int .i64 r.c.den, .int .i64 r.d.re, .int .i64 r.d.im, .int .i64 r.d.den])] wr3_1 from by first | (with_reducible exact KH.out.drew.next hb) | (with_reducible exact (KH.out.alloc _).drew.next hb)); have f1_r := Lib.hid (show World.rangeAt _ _ _ _ from (K1.out.box (w1.heap.size, [.int .i64 r.a.re, .int .i64 r.a.im, .int .i64 r.a.den, .int .i64 r.b.re, .int .i64 r.b.im, .int .i64 r.b.den, .int .i64 r.c.re, .int .i64 r.c.im, .int .i64 r.c.den, .int .i64 r.d.re, .int .i64 r.d.im, .int .i64 r.d.den]) (by simp)).2); have f1_vone := Lib.hid (show World.rangeAt _ _ _ _ from (K1.out.box (0, [.int .i64 1, .int .i64 0, .int .i64 1]) (by simp)).2); have f1_vzero := Lib.hid (show World.rangeAt _ _ _ _ from (K1.out.box (1, [.int .i64 0, .int .i64 0, .int .i64 1]) (by simp)).2); have f1_vturns := Lib.hid (show World.rangeAt _ _ _ _ from (K1.out.box (3, [.int .i64 1, .int .i64 0, .int .i64 1, .int .i64 0, .int .i64 1, .int .i64 1, .int .i64 (-1), .int .i64 0, .int .i64 1, .int .i64 0, .int .i64 (-1), .int .i64 1]) (by simp)).2); have hzr1 := hb.size; (try simp at hzr1); obtain ⟨BB, hBB, hb⟩ : ∃ B, B = _ ∧ Below B _ _ := ⟨_, rfl, hb⟩; (try simp at hBB); (first | (rcases Nat.lt_or_ge (w1.heap.size + 1) BB with hlt | hlt; rotate_left; (exfalso; omega); have yc := fun q => hb.cell (p := ⟨w1.heap.size + 1, q, none⟩) hlt; have yf := fun q => hb.frozen (p := ⟨w1.heap.size + 1, q, none⟩) hlt; (first | (have RD := Lib.hid (RD.out.below hb hlt)) | (have RD : Hid (Room wr3_1 (w1.heap.size + 1) 4) := (by show Room _ _ _; refine Room.below ?_ hb hlt; first | (with_reducible refine Room.new' ?_ rfl; simp; done) | (with_reducible refine Room.drewF (Room.new' ?_ rfl); simp; done))) | skip); clear hlt) | skip); clear hBB; have KS := Lib.hid (fun (D : Nat) h2 h4 (v0 : Value) (v1 : Value) (v2 : Value) (v3 : Value) (v4 : Value) (v5 : Value) (v6 : Value) (v7 : Value) (v8 : Value) (v9 : Value) (v10 : Value) (v11 : Value) => K1.out.store (D := D) h2 h4 [v0, v1, v2, v3, v4, v5, v6, v7, v8, v9, v10, v11]); have KS := Lib.hid (by have hh := KS.out; simp only [World.setCells, Nat.zero_add, Nat.reduceAdd] at hh; exact hh); have KS_r := Lib.hid (fun (D : Nat) (h2 : w1.heap.size ≠ D) (h4 : w.heap.size ≤ D) (v0 : Value) (v1 : Value) (v2 : Value) (v3 : Value) (v4 : Value) (v5 : Value) (v6 : Value) (v7 : Value) (v8 : Value) (v9 : Value) (v10 : Value) (v11 : Value) => World.rangeAt_setCells_apart (show World.rangeAt wr3_1 (w1.heap.size) 0 [.int .i64 r.a.re, .int .i64 r.a.im, .int .i64 r.a.den, .int .i64 r.b.re, .int .i64 r.b.im, .int .i64 r.b.den, .int .i64 r.c.re, .int .i64 r.c.im, .int .i64 r.c.den, .int .i64 r.d.re, .int .i64 r.d.im, .int .i64 r.d.den] from f1_r.out) D 0 [v0, v1, v2, v3, v4, v5, v6, v7, v8, v9, v10, v11] (Or.inl h2)); have KS_r := Lib.hid (by have hh := KS_r.out; simp only [World.setCells, Nat.zero_add, Nat.reduceAdd] at hh; exact hh); have KS_vone := Lib.hid (fun (D : Nat) (h2 : 0 ≠ D) (h4 : w.heap.size ≤ D) (v0 : Value) (v1 : Value) (v2 : Value) (v3 : Value) (v4 : Value) (v5 : Value) (v6 : Value) (v7 : Value) (v8 : Value) (v9 : Value) (v10 : Value) (v11 : Value) => World.rangeAt_setCells_apart (show World.rangeAt wr3_1 (0) 0 [.int .i64 1, .int .i64 0, .int .i64 1] from f1_vone.out) D 0 [v0, v1, v2, v3, v4, v5, v6, v7, v8, v9, v10, v11] (Or.inl h2)); have KS_vone := Lib.hid (by have hh := KS_vone.out; simp only [World.setCells, Nat.zero_add, Nat.reduceAdd] at hh; exact hh); have KS_vzero := Lib.hid (fun (D : Nat) (h2 : 1 ≠ D) (h4 : w.heap.size ≤ D) (v0 : Value) (v1 : Value) (v2 : Value) (v3 : Value) (v4 : Value) (v5 : Value) (v6 : Value) (v7 : Value) (v8 : Value) (v9 : Value) (v10 : Value) (v11 : Value) => World.rangeAt_setCells_apart (show World.rangeAt wr3_1 (1) 0 [.int .i64 0, .int .i64 0, .int .i64 1] from f1_vzero.out) D 0 [v0, v1, v2, v3, v4, v5, v6, v7, v8, v9, v10, v11] (Or.inl h2)); have KS_vzero := Lib.hid (by have hh := KS_vzero.out; simp only [World.setCells, Nat.zero_add, Nat.reduceAdd] at hh; exact hh); have KS_vturns := Lib.hid (fun (D : Nat) (h2 : 3 ≠ D) (h4 : w.heap.size ≤ D) (v0 : Value) (v1 : Value) (v2 : Value) (v3 : Value) (v4 : Value) (v5 : Value) (v6 : Value) (v7 : Value) (v8 : Value) (v9 : Value) (v10 : Value) (v11 : Value) => World.rangeAt_setCells_apart (show World.rangeAt wr3_1 (3) 0 [.int .i64 1, .int .i64 0, .int .i64 1, .int .i64 0, .int .i64 1, .int .i64 1, .int .i64 (-1), .int .i64 0, .int .i64 1, .int .i64 0, .int .i64 (-1), .int .i64 1] from f1_vturns.out) D 0 [v0, v1, v2, v3, v4, v5, v6, v7, v8, v9, v10, v11] (Or.inl h2)); have KS_vturns := Lib.hid (by have hh := KS_vturns.out; simp only [World.setCells, Nat.zero_add, Nat.reduceAdd] at hh; exact hh); clear ho hb))
          all_goals (go_wp2_with fail; go_meet)
          all_goals (first
              | (refine ⟨w1.heap.size + 1, rfl, rfl, by omega, ?_⟩; have kS := KS.out (w1.heap.size + 1) (by intro e he; simp only [List.mem_cons, List.not_mem_nil, or_false] at he; rcases he with rfl | rfl | rfl | rfl <;> (show _ ≠ _; omega)) (by omega) (.int .i64 A.a.re) (.int .i64 A.a.im) (.int .i64 A.a.den) (.int .i64 A.b.re) (.int .i64 A.b.im) (.int .i64 A.b.den) (.int .i64 A.c.re) (.int .i64 A.c.im) (.int .i64 A.c.den) (.int .i64 A.d.re) (.int .i64 A.d.im) (.int .i64 A.d.den); have hh := fun W h => World.rangeAt_setCells_same W (w1.heap.size + 1) 0 [.int .i64 A.a.re, .int .i64 A.a.im, .int .i64 A.a.den, .int .i64 A.b.re, .int .i64 A.b.im, .int .i64 A.b.den, .int .i64 A.c.re, .int .i64 A.c.im, .int .i64 A.c.den, .int .i64 A.d.re, .int .i64 A.d.im, .int .i64 A.d.den] h; simp only [World.setCells, Nat.zero_add, Nat.reduceAdd] at hh; have hr := hh _ RD.out.there; have hE := RD.out.ltF (by omega); exact kS.add (by simpa using hE) hr)
              | (refine ⟨wr3_1.heap.size, rfl, rfl, by omega, ?_⟩; have kS := K1.out.alloc (.cells #[.int .i64 A.a.re, .int .i64 A.a.im, .int .i64 A.a.den, .int .i64 A.b.re, .int .i64 A.b.im, .int .i64 A.b.den, .int .i64 A.c.re, .int .i64 A.c.im, .int .i64 A.c.den, .int .i64 A.d.re, .int .i64 A.d.im, .int .i64 A.d.den] 41); exact kS.add (by simp) (rangeAt_new _ _ _)))
        case rest =>
        obtain ⟨D3, rfl, rfl, hlo3, KC⟩ := hcut
        obtain ⟨wq3, hwq⟩ : ∃ x, x = wc := ⟨_, rfl⟩
        rw [← hwq] at KC
        rw [← hwq]
        clear hwq
        obtain ⟨hl_aa, hr_aa⟩ := KC.box (D3, [.int .i64 A.a.re, .int .i64 A.a.im, .int .i64 A.a.den, .int .i64 A.b.re, .int .i64 A.b.im, .int .i64 A.b.den, .int .i64 A.c.re, .int .i64 A.c.im, .int .i64 A.c.den, .int .i64 A.d.re, .int .i64 A.d.im, .int .i64 A.d.den]) (by simp)
        have Haa := Lib.hid hr_aa
        clear hr_aa
        obtain ⟨hl_vone, hr_vone⟩ := KC.box (0, [.int .i64 1, .int .i64 0, .int .i64 1]) (by simp)
        have Hvone := Lib.hid hr_vone
        clear hr_vone
        obtain ⟨hl_vzero, hr_vzero⟩ := KC.box (1, [.int .i64 0, .int .i64 0, .int .i64 1]) (by simp)
        have Hvzero := Lib.hid hr_vzero
        clear hr_vzero
        obtain ⟨hl_vturns, hr_vturns⟩ := KC.box (3, [.int .i64 1, .int .i64 0, .int .i64 1, .int .i64 0, .int .i64 1, .int .i64 1, .int .i64 (-1), .int .i64 0, .int .i64 1, .int .i64 0, .int .i64 (-1), .int .i64 1]) (by simp)
        have Hvturns := Lib.hid hr_vturns
        clear hr_vturns
        obtain ⟨hl_r, hr_r⟩ := KC.box (w1.heap.size, [.int .i64 r.a.re, .int .i64 r.a.im, .int .i64 r.a.den, .int .i64 r.b.re, .int .i64 r.b.im, .int .i64 r.b.den, .int .i64 r.c.re, .int .i64 r.c.im, .int .i64 r.c.den, .int .i64 r.d.re, .int .i64 r.d.im, .int .i64 r.d.den]) (by simp)
        have Hr := Lib.hid hr_r
        clear hr_r
        have HB := Lib.hid KC.below
        have HR := Lib.hid KC.room
        have hRl : w.heap.size < wq3.heap.size := by rcases KC.hR with h | h <;> omega
        clear KC KH
        have nA4 : D3 < wq3.heap.size := by first | assumption | omega
        have nB4 : ¬ D3 = wq3.heap.size := by omega
        have nC4 : ¬ wq3.heap.size = D3 := by omega
        have nA0 : 0 < wq3.heap.size := by first | assumption | omega
        have nB0 : ¬ 0 = wq3.heap.size := by omega
        have nC0 : ¬ wq3.heap.size = 0 := by omega
        have nA1 : 1 < wq3.heap.size := by first | assumption | omega
        have nB1 : ¬ 1 = wq3.heap.size := by omega
        have nC1 : ¬ wq3.heap.size = 1 := by omega
        have nA2 : 3 < wq3.heap.size := by first | assumption | omega
        have nB2 : ¬ 3 = wq3.heap.size := by omega
        have nC2 : ¬ wq3.heap.size = 3 := by omega
        have nA5 : w1.heap.size < wq3.heap.size := by first | assumption | omega
        have nB5 : ¬ w1.heap.size = wq3.heap.size := by omega
        have nC5 : ¬ wq3.heap.size = w1.heap.size := by omega
        have nA3 : w.heap.size < wq3.heap.size := by first | assumption | omega
        have nB3 : ¬ w.heap.size = wq3.heap.size := by omega
        have nC3 : ¬ wq3.heap.size = w.heap.size := by omega
        go_wp2_with (first | ((with_reducible refine wpList_load_mid ?kl191 41 ?kl19x ?kl192 (w1.heap.size) 0 ?kl193 [.int .i64 r.a.re, .int .i64 r.a.im, .int .i64 r.a.den, .int .i64 r.b.re, .int .i64 r.b.im, .int .i64 r.b.den, .int .i64 r.c.re, .int .i64 r.c.im, .int .i64 r.c.den, .int .i64 r.d.re, .int .i64 r.d.im, .int .i64 r.d.den] ?kl19d ?kl194 ?kl195 ?kl196 ?kl197 ?kl198); (case kl192 => rfl); (case kl191 => rfl); (case kl193 => rfl); (case kl194 => (exact Hr.out)); (case kl195 => exact Tryd.underlying41); (case kl196 => rfl); (case kl197 => kernel_rfl)))
        refine (imatadj_any r _).mono ?_
        rintro e w3 ho
        rw [HB0.out] at ho
        obtain ⟨rfl, hb⟩ : e = .returned (.tuple #[.agg #[.int .i64 B.a.re, .int .i64 B.a.im, .int .i64 B.a.den, .int .i64 B.b.re, .int .i64 B.b.im, .int .i64 B.b.den, .int .i64 B.c.re, .int .i64 B.c.im, .int .i64 B.c.den, .int .i64 B.d.re, .int .i64 B.d.im, .int .i64 B.d.den], .bool b]) ∧ Below _ _ _ := ho.fn
        clear ho
        have HB := Lib.hid (show Below w.heap.size w w3 from HB.out.trans ((show Below _ _ _ from (Below.refl _ _)).trans (hb.mono (by first | omega | (simp <;> omega)))))
        have Haa : Hid (w3.rangeAt (D3) 0 [.int .i64 A.a.re, .int .i64 A.a.im, .int .i64 A.a.den, .int .i64 A.b.re, .int .i64 A.b.im, .int .i64 A.b.den, .int .i64 A.c.re, .int .i64 A.c.im, .int .i64 A.c.den, .int .i64 A.d.re, .int .i64 A.d.im, .int .i64 A.d.den]) := rangeAt_below Haa.out hb (by first | omega | (simp; done) | (simp <;> omega))
        have Hvone : Hid (w3.rangeAt (0) 0 [.int .i64 1, .int .i64 0, .int .i64 1]) := rangeAt_below Hvone.out hb (by first | omega | (simp; done) | (simp <;> omega))
        have Hvzero : Hid (w3.rangeAt (1) 0 [.int .i64 0, .int .i64 0, .int .i64 1]) := rangeAt_below Hvzero.out hb (by first | omega | (simp; done) | (simp <;> omega))
        have Hvturns : Hid (w3.rangeAt (3) 0 [.int .i64 1, .int .i64 0, .int .i64 1, .int .i64 0, .int .i64 1, .int .i64 1, .int .i64 (-1), .int .i64 0, .int .i64 1, .int .i64 0, .int .i64 (-1), .int .i64 1]) := rangeAt_below Hvturns.out hb (by first | omega | (simp; done) | (simp <;> omega))
        have Hr : Hid (w3.rangeAt (w1.heap.size) 0 [.int .i64 r.a.re, .int .i64 r.a.im, .int .i64 r.a.den, .int .i64 r.b.re, .int .i64 r.b.im, .int .i64 r.b.den, .int .i64 r.c.re, .int .i64 r.c.im, .int .i64 r.c.den, .int .i64 r.d.re, .int .i64 r.d.im, .int .i64 r.d.den]) := rangeAt_below Hr.out hb (by first | omega | (simp; done) | (simp <;> omega))
        have HR := Lib.hid ((show Room _ (w.heap.size) 4 from HR.out).below hb (by first | omega | (simp <;> omega)))
        have hz3 := hb.size
        (try simp at hz3)
        clear hb
        have hne3 : ¬ w3.heap = #[] := fun h => absurd (show 0 < 0 from (by have hh : 0 < w3.heap.size := (by omega); rw [h] at hh; exact hh)) (Nat.not_lt_zero _)
        have nA4 : D3 < w3.heap.size := by omega
        have nB4 : ¬ D3 = w3.heap.size := by omega
        have nC4 : ¬ w3.heap.size = D3 := by omega
        have nA0 : 0 < w3.heap.size := by omega
        have nB0 : ¬ 0 = w3.heap.size := by omega
        have nC0 : ¬ w3.heap.size = 0 := by omega
        have nA1 : 1 < w3.heap.size := by omega
        have nB1 : ¬ 1 = w3.heap.size := by omega
        have nC1 : ¬ w3.heap.size = 1 := by omega
        have nA2 : 3 < w3.heap.size := by omega
        have nB2 : ¬ 3 = w3.heap.size := by omega
        have nC2 : ¬ w3.heap.size = 3 := by omega
        have nA5 : w1.heap.size < w3.heap.size := by omega
        have nB5 : ¬ w1.heap.size = w3.heap.size := by omega
        have nC5 : ¬ w3.heap.size = w1.heap.size := by omega
        have nA3 : w.heap.size < w3.heap.size := by omega
        have nB3 : ¬ w.heap.size = w3.heap.size := by omega
        have nC3 : ¬ w3.heap.size = w.heap.size := by omega
        go_wp2_with (first | ((with_reducible refine wpList_load_mid ?kl201 41 ?kl20x ?kl202 (D3) 0 ?kl203 [.int .i64 A.a.re, .int .i64 A.a.im, .int .i64 A.a.den, .int .i64 A.b.re, .int .i64 A.b.im, .int .i64 A.b.den, .int .i64 A.c.re, .int .i64 A.c.im, .int .i64 A.c.den, .int .i64 A.d.re, .int .i64 A.d.im, .int .i64 A.d.den] ?kl20d ?kl204 ?kl205 ?kl206 ?kl207 ?kl208); (case kl202 => rfl); (case kl201 => rfl); (case kl203 => rfl); (case kl204 => (exact (World.rangeAt_alloc Haa.out _))); (case kl205 => exact Tryd.underlying41); (case kl206 => rfl); (case kl207 => kernel_rfl)) | ((with_reducible refine wpList_load_mid ?kl211 41 ?kl21x ?kl212 (w3.heap.size) 0 ?kl213 [.int .i64 B.a.re, .int .i64 B.a.im, .int .i64 B.a.den, .int .i64 B.b.re, .int .i64 B.b.im, .int .i64 B.b.den, .int .i64 B.c.re, .int .i64 B.c.im, .int .i64 B.c.den, .int .i64 B.d.re, .int .i64 B.d.im, .int .i64 B.d.den] ?kl21d ?kl214 ?kl215 ?kl216 ?kl217 ?kl218); (case kl212 => rfl); (case kl211 => rfl); (case kl213 => rfl); (case kl214 => (exact (rangeAt_new _ _ _))); (case kl215 => exact Tryd.underlying41); (case kl216 => rfl); (case kl217 => kernel_rfl)))
        refine (imtm_m A B _).mono ?_
        rintro e w4 ho
        rw [HC0.out] at ho
        obtain ⟨rfl, hb⟩ : e = .returned (.tuple #[.agg #[.int .i64 C.a.re, .int .i64 C.a.im, .int .i64 C.a.den, .int .i64 C.b.re, .int .i64 C.b.im, .int .i64 C.b.den, .int .i64 C.c.re, .int .i64 C.c.im, .int .i64 C.c.den, .int .i64 C.d.re, .int .i64 C.d.im, .int .i64 C.d.den], .bool v]) ∧ Below _ _ _ := ho.fn
        clear ho
        have HB := Lib.hid (show Below w.heap.size w w4 from HB.out.trans ((show Below _ _ _ from ((Below.refl _ _).alloc (by first | omega | (simp; done) | (simp <;> omega)) _)).trans (hb.mono (by first | omega | (simp <;> omega)))))
        have Haa : Hid (w4.rangeAt (D3) 0 [.int .i64 A.a.re, .int .i64 A.a.im, .int .i64 A.a.den, .int .i64 A.b.re, .int .i64 A.b.im, .int .i64 A.b.den, .int .i64 A.c.re, .int .i64 A.c.im, .int .i64 A.c.den, .int .i64 A.d.re, .int .i64 A.d.im, .int .i64 A.d.den]) := rangeAt_below (World.rangeAt_alloc Haa.out _) hb (by first | omega | (simp; done) | (simp <;> omega))
        have Hvone : Hid (w4.rangeAt (0) 0 [.int .i64 1, .int .i64 0, .int .i64 1]) := rangeAt_below (World.rangeAt_alloc Hvone.out _) hb (by first | omega | (simp; done) | (simp <;> omega))
        have Hvzero : Hid (w4.rangeAt (1) 0 [.int .i64 0, .int .i64 0, .int .i64 1]) := rangeAt_below (World.rangeAt_alloc Hvzero.out _) hb (by first | omega | (simp; done) | (simp <;> omega))
        have Hvturns : Hid (w4.rangeAt (3) 0 [.int .i64 1, .int .i64 0, .int .i64 1, .int .i64 0, .int .i64 1, .int .i64 1, .int .i64 (-1), .int .i64 0, .int .i64 1, .int .i64 0, .int .i64 (-1), .int .i64 1]) := rangeAt_below (World.rangeAt_alloc Hvturns.out _) hb (by first | omega | (simp; done) | (simp <;> omega))
        have Hr : Hid (w4.rangeAt (w1.heap.size) 0 [.int .i64 r.a.re, .int .i64 r.a.im, .int .i64 r.a.den, .int .i64 r.b.re, .int .i64 r.b.im, .int .i64 r.b.den, .int .i64 r.c.re, .int .i64 r.c.im, .int .i64 r.c.den, .int .i64 r.d.re, .int .i64 r.d.im, .int .i64 r.d.den]) := rangeAt_below (World.rangeAt_alloc Hr.out _) hb (by first | omega | (simp; done) | (simp <;> omega))
        have HR := Lib.hid ((show Room _ (w.heap.size) 4 from (HR.out.alloc (by first | omega | (simp; done) | (simp <;> omega)) _)).below hb (by first | omega | (simp <;> omega)))
        have Hbb : Hid (w4.rangeAt (w3.heap.size) 0 [.int .i64 B.a.re, .int .i64 B.a.im, .int .i64 B.a.den, .int .i64 B.b.re, .int .i64 B.b.im, .int .i64 B.b.den, .int .i64 B.c.re, .int .i64 B.c.im, .int .i64 B.c.den, .int .i64 B.d.re, .int .i64 B.d.im, .int .i64 B.d.den]) := rangeAt_below (rangeAt_new _ _ _) hb (by first | omega | (simp; done) | (simp <;> omega))
        have hz4 := hb.size
        (try simp at hz4)
        clear hb
        have hne4 : ¬ w4.heap = #[] := fun h => absurd (show 0 < 0 from (by have hh : 0 < w4.heap.size := (by omega); rw [h] at hh; exact hh)) (Nat.not_lt_zero _)
        have nA4 : D3 < w4.heap.size := by omega
        have nB4 : ¬ D3 = w4.heap.size := by omega
        have nC4 : ¬ w4.heap.size = D3 := by omega
        have nA0 : 0 < w4.heap.size := by omega
        have nB0 : ¬ 0 = w4.heap.size := by omega
        have nC0 : ¬ w4.heap.size = 0 := by omega
        have nA1 : 1 < w4.heap.size := by omega
        have nB1 : ¬ 1 = w4.heap.size := by omega
        have nC1 : ¬ w4.heap.size = 1 := by omega
        have nA2 : 3 < w4.heap.size := by omega
        have nB2 : ¬ 3 = w4.heap.size := by omega
        have nC2 : ¬ w4.heap.size = 3 := by omega
        have nA5 : w1.heap.size < w4.heap.size := by omega
        have nB5 : ¬ w1.heap.size = w4.heap.size := by omega
        have nC5 : ¬ w4.heap.size = w1.heap.size := by omega
        have nA6 : w3.heap.size < w4.heap.size := by omega
        have nB6 : ¬ w3.heap.size = w4.heap.size := by omega
        have nC6 : ¬ w4.heap.size = w3.heap.size := by omega
        have nA3 : w.heap.size < w4.heap.size := by omega
        have nB3 : ¬ w.heap.size = w4.heap.size := by omega
        have nC3 : ¬ w4.heap.size = w.heap.size := by omega
        cases u
        · skip
          have HG : Hid (gPla p q 1 = (m4z, false)) := HGg.out
          clear HGg
          have hth := (show Room (w4.alloc (.cells #[.int .i64 C.a.re, .int .i64 C.a.im, .int .i64 C.a.den, .int .i64 C.b.re, .int .i64 C.b.im, .int .i64 C.b.den, .int .i64 C.c.re, .int .i64 C.c.im, .int .i64 C.c.den, .int .i64 C.d.re, .int .i64 C.d.im, .int .i64 C.d.den] 41)) (w.heap.size) 4 from (HR.out.alloc (by first | omega | (simp; done) | (simp <;> omega)) _)).there
          go_wp2_with (first | ((with_reducible refine wpList_store_mid ?kl221 41 ?kl22x ?kl22y ?kl222 (w.heap.size) 0 #[.int .i64 0, .int .i64 0, .int .i64 0, .int .i64 0, .int .i64 0, .int .i64 0, .int .i64 0, .int .i64 0, .int .i64 0, .int .i64 0, .int .i64 0, .int .i64 0] ?kl223 ?kl224 ?kl225 ?kl226 ?kl227 ?kl228); (case kl222 => rfl); (case kl221 => rfl); (case kl223 => rfl); (case kl224 => rfl); (case kl225 => exact hth); (case kl226 => kernel_rfl); (case kl227 => exact (by simp [Value.oneCell']))))
          refine bodyPost_ret (v := .tuple #[.agg #[.int .i64 0, .int .i64 0, .int .i64 0, .int .i64 0, .int .i64 0, .int .i64 0, .int .i64 0, .int .i64 0, .int .i64 0, .int .i64 0, .int .i64 0, .int .i64 0], .bool false]) ?_ rfl (M4Out.no HG.out ?_)
          · exact Eq.trans (results_cell_mid2 Tryd.results50 _ _ (w.heap.size) [.int .i64 0, .int .i64 0, .int .i64 0, .int .i64 0, .int .i64 0, .int .i64 0, .int .i64 0, .int .i64 0, .int .i64 0, .int .i64 0, .int .i64 0, .int .i64 0] _ (by rfl) (World.rangeAt_setCells_same _ (w.heap.size) 0 [.int .i64 0, .int .i64 0, .int .i64 0, .int .i64 0, .int .i64 0, .int .i64 0, .int .i64 0, .int .i64 0, .int .i64 0, .int .i64 0, .int .i64 0, .int .i64 0] hth) Tryd.underlying41 rfl (by kernel_rfl)) rfl
          · (repeat' first | (with_reducible exact HB.out) | with_reducible refine setCells_below _ _ _ ?_ (by first | omega | (simp <;> omega)) | with_reducible refine Below.setCell ?_ (by show _ ≤ _; first | omega | (simp <;> omega) | simp) _ | with_reducible refine Below.alloc ?_ (by first | omega | (simp <;> omega)) _ | with_reducible apply Below.drew | with_reducible refine below_drewN ?_ _)
        · cases v
          · skip
            have HG : Hid (gPla p q 1 = (m4z, false)) := HGg.out
            clear HGg
            have hth := (show Room (w4.alloc (.cells #[.int .i64 C.a.re, .int .i64 C.a.im, .int .i64 C.a.den, .int .i64 C.b.re, .int .i64 C.b.im, .int .i64 C.b.den, .int .i64 C.c.re, .int .i64 C.c.im, .int .i64 C.c.den, .int .i64 C.d.re, .int .i64 C.d.im, .int .i64 C.d.den] 41)) (w.heap.size) 4 from (HR.out.alloc (by first | omega | (simp; done) | (simp <;> omega)) _)).there
            go_wp2_with (first | ((with_reducible refine wpList_store_mid ?kl231 41 ?kl23x ?kl23y ?kl232 (w.heap.size) 0 #[.int .i64 0, .int .i64 0, .int .i64 0, .int .i64 0, .int .i64 0, .int .i64 0, .int .i64 0, .int .i64 0, .int .i64 0, .int .i64 0, .int .i64 0, .int .i64 0] ?kl233 ?kl234 ?kl235 ?kl236 ?kl237 ?kl238); (case kl232 => rfl); (case kl231 => rfl); (case kl233 => rfl); (case kl234 => rfl); (case kl235 => exact hth); (case kl236 => kernel_rfl); (case kl237 => exact (by simp [Value.oneCell']))))
            refine bodyPost_ret (v := .tuple #[.agg #[.int .i64 0, .int .i64 0, .int .i64 0, .int .i64 0, .int .i64 0, .int .i64 0, .int .i64 0, .int .i64 0, .int .i64 0, .int .i64 0, .int .i64 0, .int .i64 0], .bool false]) ?_ rfl (M4Out.no HG.out ?_)
            · exact Eq.trans (results_cell_mid2 Tryd.results50 _ _ (w.heap.size) [.int .i64 0, .int .i64 0, .int .i64 0, .int .i64 0, .int .i64 0, .int .i64 0, .int .i64 0, .int .i64 0, .int .i64 0, .int .i64 0, .int .i64 0, .int .i64 0] _ (by rfl) (World.rangeAt_setCells_same _ (w.heap.size) 0 [.int .i64 0, .int .i64 0, .int .i64 0, .int .i64 0, .int .i64 0, .int .i64 0, .int .i64 0, .int .i64 0, .int .i64 0, .int .i64 0, .int .i64 0, .int .i64 0] hth) Tryd.underlying41 rfl (by kernel_rfl)) rfl
            · (repeat' first | (with_reducible exact HB.out) | with_reducible refine setCells_below _ _ _ ?_ (by first | omega | (simp <;> omega)) | with_reducible refine Below.setCell ?_ (by show _ ≤ _; first | omega | (simp <;> omega) | simp) _ | with_reducible refine Below.alloc ?_ (by first | omega | (simp <;> omega)) _ | with_reducible apply Below.drew | with_reducible refine below_drewN ?_ _)
          · skip
            have HG : Hid (gPla p q 1 = (C, true)) := HGg.out
            clear HGg
            have hth := (show Room (w4.alloc (.cells #[.int .i64 C.a.re, .int .i64 C.a.im, .int .i64 C.a.den, .int .i64 C.b.re, .int .i64 C.b.im, .int .i64 C.b.den, .int .i64 C.c.re, .int .i64 C.c.im, .int .i64 C.c.den, .int .i64 C.d.re, .int .i64 C.d.im, .int .i64 C.d.den] 41)) (w.heap.size) 4 from (HR.out.alloc (by first | omega | (simp; done) | (simp <;> omega)) _)).there
            go_wp2_with (first | (first | ((with_reducible refine wpList_load_mid ?kl241 41 ?kl24x ?kl242 (w4.heap.size) 0 ?kl243 [.int .i64 C.a.re, .int .i64 C.a.im, .int .i64 C.a.den, .int .i64 C.b.re, .int .i64 C.b.im, .int .i64 C.b.den, .int .i64 C.c.re, .int .i64 C.c.im, .int .i64 C.c.den, .int .i64 C.d.re, .int .i64 C.d.im, .int .i64 C.d.den] ?kl24d ?kl244 ?kl245 ?kl246 ?kl247 ?kl248); (case kl242 => rfl); (case kl241 => rfl); (case kl243 => rfl); (case kl244 => (exact (rangeAt_new _ _ _))); (case kl245 => exact Tryd.underlying41); (case kl246 => rfl); (case kl247 => kernel_rfl))) | ((with_reducible refine wpList_store_mid ?kl251 41 ?kl25x ?kl25y ?kl252 (w.heap.size) 0 #[.int .i64 C.a.re, .int .i64 C.a.im, .int .i64 C.a.den, .int .i64 C.b.re, .int .i64 C.b.im, .int .i64 C.b.den, .int .i64 C.c.re, .int .i64 C.c.im, .int .i64 C.c.den, .int .i64 C.d.re, .int .i64 C.d.im, .int .i64 C.d.den] ?kl253 ?kl254 ?kl255 ?kl256 ?kl257 ?kl258); (case kl252 => rfl); (case kl251 => rfl); (case kl253 => rfl); (case kl254 => rfl); (case kl255 => exact hth); (case kl256 => kernel_rfl); (case kl257 => exact (by simp [Value.oneCell']))))
            refine bodyPost_ret (v := .tuple #[.agg #[.int .i64 C.a.re, .int .i64 C.a.im, .int .i64 C.a.den, .int .i64 C.b.re, .int .i64 C.b.im, .int .i64 C.b.den, .int .i64 C.c.re, .int .i64 C.c.im, .int .i64 C.c.den, .int .i64 C.d.re, .int .i64 C.d.im, .int .i64 C.d.den], .bool true]) ?_ rfl (M4Out.yes (f := C) (by rw [HG.out]) (by rw [HG.out]) ?_)
            · exact Eq.trans (results_cell_mid2 Tryd.results50 _ _ (w.heap.size) [.int .i64 C.a.re, .int .i64 C.a.im, .int .i64 C.a.den, .int .i64 C.b.re, .int .i64 C.b.im, .int .i64 C.b.den, .int .i64 C.c.re, .int .i64 C.c.im, .int .i64 C.c.den, .int .i64 C.d.re, .int .i64 C.d.im, .int .i64 C.d.den] _ (by rfl) (World.rangeAt_setCells_same _ (w.heap.size) 0 [.int .i64 C.a.re, .int .i64 C.a.im, .int .i64 C.a.den, .int .i64 C.b.re, .int .i64 C.b.im, .int .i64 C.b.den, .int .i64 C.c.re, .int .i64 C.c.im, .int .i64 C.c.den, .int .i64 C.d.re, .int .i64 C.d.im, .int .i64 C.d.den] hth) Tryd.underlying41 rfl (by kernel_rfl)) rfl
            · (repeat' first | (with_reducible exact HB.out) | with_reducible refine setCells_below _ _ _ ?_ (by first | omega | (simp <;> omega)) | with_reducible refine Below.setCell ?_ (by show _ ≤ _; first | omega | (simp <;> omega) | simp) _ | with_reducible refine Below.alloc ?_ (by first | omega | (simp <;> omega)) _ | with_reducible apply Below.drew | with_reducible refine below_drewN ?_ _)
      · skip
        have HA0 : Hid (mTm r ⟨⟨1, 0, 1⟩, ⟨0, 0, 1⟩, ⟨0, 0, 1⟩, ⟨-1, 0, 1⟩⟩ = (A, u)) := HA0.out
        have ia : (0 : Int) ≤ 2 := by omega
        have ib : (2 : Int) < 4 := by omega
        have HB : Hid (Below w.heap.size w w) := Below.refl _ _
        have hlt_one := hg_one.lt
        have Hvone : Hid (w.rangeAt 0 0 [.int .i64 1, .int .i64 0, .int .i64 1]) := by show World.rangeAt _ _ _ _; exact rangeOf1 hg_one.box
        have hlt_zero := hg_zero.lt
        have Hvzero : Hid (w.rangeAt 1 0 [.int .i64 0, .int .i64 0, .int .i64 1]) := by show World.rangeAt _ _ _ _; exact rangeOf1 hg_zero.box
        have hlt_turns := hg_turns.lt
        have Hvturns : Hid (w.rangeAt 3 0 [.int .i64 1, .int .i64 0, .int .i64 1, .int .i64 0, .int .i64 1, .int .i64 1, .int .i64 (-1), .int .i64 0, .int .i64 1, .int .i64 0, .int .i64 (-1), .int .i64 1]) := by show World.rangeAt _ _ _ _; exact BoxAt.range4 hg_turns.box
        have HG_one := Lib.hid hg_one; clear hg_one
        have HG_zero := Lib.hid hg_zero; clear hg_zero
        have HG_turns := Lib.hid hg_turns; clear hg_turns
        go_enter Tryd.func50, Tryd.ntmps50
        go_wp2_with fail
        refine (irot_any p q _).mono ?_
        rintro e w1 ho
        rw [HR0.out] at ho
        obtain ⟨rfl, hb⟩ : e = .returned (.tuple #[.agg #[.int .i64 r.a.re, .int .i64 r.a.im, .int .i64 r.a.den, .int .i64 r.b.re, .int .i64 r.b.im, .int .i64 r.b.den, .int .i64 r.c.re, .int .i64 r.c.im, .int .i64 r.c.den, .int .i64 r.d.re, .int .i64 r.d.im, .int .i64 r.d.den], .bool true]) ∧ Below _ _ _ := ho.fn
        clear ho
        have HB := Lib.hid (show Below w.heap.size w w1 from HB.out.trans ((show Below _ _ _ from ((Below.refl _ _).alloc (by first | omega | (simp; done) | (simp <;> omega)) _)).trans (hb.mono (by first | omega | (simp <;> omega)))))
        have Hvone : Hid (w1.rangeAt (0) 0 [.int .i64 1, .int .i64 0, .int .i64 1]) := rangeAt_below (World.rangeAt_alloc Hvone.out _) hb (by first | omega | (simp; done) | (simp <;> omega))
        have Hvzero : Hid (w1.rangeAt (1) 0 [.int .i64 0, .int .i64 0, .int .i64 1]) := rangeAt_below (World.rangeAt_alloc Hvzero.out _) hb (by first | omega | (simp; done) | (simp <;> omega))
        have Hvturns : Hid (w1.rangeAt (3) 0 [.int .i64 1, .int .i64 0, .int .i64 1, .int .i64 0, .int .i64 1, .int .i64 1, .int .i64 (-1), .int .i64 0, .int .i64 1, .int .i64 0, .int .i64 (-1), .int .i64 1]) := rangeAt_below (World.rangeAt_alloc Hvturns.out _) hb (by first | omega | (simp; done) | (simp <;> omega))
        have HR := Lib.hid ((show Room _ (w.heap.size) 4 from (Room.new' rfl rfl)).below hb (by first | omega | (simp <;> omega)))
        have hz1 := hb.size
        (try simp at hz1)
        clear hb
        have hne1 : ¬ w1.heap = #[] := fun h => absurd (show 0 < 0 from (by have hh : 0 < w1.heap.size := (by omega); rw [h] at hh; exact hh)) (Nat.not_lt_zero _)
        have nA0 : 0 < w1.heap.size := by omega
        have nB0 : ¬ 0 = w1.heap.size := by omega
        have nC0 : ¬ w1.heap.size = 0 := by omega
        have nA1 : 1 < w1.heap.size := by omega
        have nB1 : ¬ 1 = w1.heap.size := by omega
        have nC1 : ¬ w1.heap.size = 1 := by omega
        have nA2 : 3 < w1.heap.size := by omega
        have nB2 : ¬ 3 = w1.heap.size := by omega
        have nC2 : ¬ w1.heap.size = 3 := by omega
        have nA3 : w.heap.size < w1.heap.size := by omega
        have nB3 : ¬ w.heap.size = w1.heap.size := by omega
        have nC3 : ¬ w1.heap.size = w.heap.size := by omega
        have KH : Hid (BX w (w.heap.size) 4 [(0, [.int .i64 1, .int .i64 0, .int .i64 1]), (1, [.int .i64 0, .int .i64 0, .int .i64 1]), (3, [.int .i64 1, .int .i64 0, .int .i64 1, .int .i64 0, .int .i64 1, .int .i64 1, .int .i64 (-1), .int .i64 0, .int .i64 1, .int .i64 0, .int .i64 (-1), .int .i64 1]), (w1.heap.size, [.int .i64 r.a.re, .int .i64 r.a.im, .int .i64 r.a.den, .int .i64 r.b.re, .int .i64 r.b.im, .int .i64 r.b.den, .int .i64 r.c.re, .int .i64 r.c.im, .int .i64 r.c.den, .int .i64 r.d.re, .int .i64 r.d.im, .int .i64 r.d.den])] (w1.alloc (.cells #[.int .i64 r.a.re, .int .i64 r.a.im, .int .i64 r.a.den, .int .i64 r.b.re, .int .i64 r.b.im, .int .i64 r.b.den, .int .i64 r.c.re, .int .i64 r.c.im, .int .i64 r.c.den, .int .i64 r.d.re, .int .i64 r.d.im, .int .i64 r.d.den] 41))) := by
          show BX _ _ _ _ _
          refine ⟨(Below.alloc HB.out (by first | omega | (simp; done) | (simp <;> omega)) _), Or.inl (by first | omega | (simp <;> omega)), (HR.out.alloc (by first | omega | (simp; done) | (simp <;> omega)) _), ?_⟩
          intro e he
          simp only [List.mem_cons, List.not_mem_nil, or_false] at he
          rcases he with rfl | rfl | rfl | rfl
          · exact ⟨by first | (show 0 < _; omega) | (show 0 < _; simp; done) | (show 0 < _; simp <;> omega), (World.rangeAt_alloc Hvone.out _)⟩
          · exact ⟨by first | (show 1 < _; omega) | (show 1 < _; simp; done) | (show 1 < _; simp <;> omega), (World.rangeAt_alloc Hvzero.out _)⟩
          · exact ⟨by first | (show 3 < _; omega) | (show 3 < _; simp; done) | (show 3 < _; simp <;> omega), (World.rangeAt_alloc Hvturns.out _)⟩
          · exact ⟨by first | (show w1.heap.size < _; omega) | (show w1.heap.size < _; simp; done) | (show w1.heap.size < _; simp <;> omega), (rangeAt_new _ _ _)⟩
        have hsz4 : w1.heap.size + 1 ≤ w1.heap.size + 1 := Nat.le_refl _
        go_upto_region 4 with (go_at_call 63; (with_reducible refine (within_b HK.out _).mono ?_); rintro e w' ⟨rfl, rfl⟩)
        go_cut [10, 11] (fun s10 s11 wx => ∃ D : Nat, s10 = .pointer (some ⟨D, 0, none⟩) ∧ s11 = .bool u ∧ w1.heap.size ≤ D ∧ BX w (w.heap.size) 4 ((D, [.int .i64 A.a.re, .int .i64 A.a.im, .int .i64 A.a.den, .int .i64 A.b.re, .int .i64 A.b.im, .int .i64 A.b.den, .int .i64 A.c.re, .int .i64 A.c.im, .int .i64 A.c.den, .int .i64 A.d.re, .int .i64 A.d.im, .int .i64 A.d.den]) :: [(0, [.int .i64 1, .int .i64 0, .int .i64 1]), (1, [.int .i64 0, .int .i64 0, .int .i64 1]), (3, [.int .i64 1, .int .i64 0, .int .i64 1, .int .i64 0, .int .i64 1, .int .i64 1, .int .i64 (-1), .int .i64 0, .int .i64 1, .int .i64 0, .int .i64 (-1), .int .i64 1]), (w1.heap.size, [.int .i64 r.a.re, .int .i64 r.a.im, .int .i64 r.a.den, .int .i64 r.b.re, .int .i64 r.b.im, .int .i64 r.b.den, .int .i64 r.c.re, .int .i64 r.c.im, .int .i64 r.c.den, .int .i64 r.d.re, .int .i64 r.d.im, .int .i64 r.d.den])]) wx)
        case first =>
          have f0_r := Lib.hid (show World.rangeAt _ _ _ _ from (KH.out.drew.box (w1.heap.size, [.int .i64 r.a.re, .int .i64 r.a.im, .int .i64 r.a.den, .int .i64 r.b.re, .int .i64 r.b.im, .int .i64 r.b.den, .int .i64 r.c.re, .int .i64 r.c.im, .int .i64 r.c.den, .int .i64 r.d.re, .int .i64 r.d.im, .int .i64 r.d.den]) (by simp)).2)
          have f0_vone := Lib.hid (show World.rangeAt _ _ _ _ from (KH.out.drew.box (0, [.int .i64 1, .int .i64 0, .int .i64 1]) (by simp)).2)
          have f0_vzero := Lib.hid (show World.rangeAt _ _ _ _ from (KH.out.drew.box (1, [.int .i64 0, .int .i64 0, .int .i64 1]) (by simp)).2)
          have f0_vturns := Lib.hid (show World.rangeAt _ _ _ _ from (KH.out.drew.box (3, [.int .i64 1, .int .i64 0, .int .i64 1, .int .i64 0, .int .i64 1, .int .i64 1, .int .i64 (-1), .int .i64 0, .int .i64 1, .int .i64 0, .int .i64 (-1), .int .i64 1]) (by simp)).2)
          have h0_r := Lib.hid (fun z => show World.rangeAt _ _ _ _ from ((KH.out.alloc z).drew.box (w1.heap.size, [.int .i64 r.a.re, .int .i64 r.a.im, .int .i64 r.a.den, .int .i64 r.b.re, .int .i64 r.b.im, .int .i64 r.b.den, .int .i64 r.c.re, .int .i64 r.c.im, .int .i64 r.c.den, .int .i64 r.d.re, .int .i64 r.d.im, .int .i64 r.d.den]) (by simp)).2)
          have h0_vone := Lib.hid (fun z => show World.rangeAt _ _ _ _ from ((KH.out.alloc z).drew.box (0, [.int .i64 1, .int .i64 0, .int .i64 1]) (by simp)).2)
          have h0_vzero := Lib.hid (fun z => show World.rangeAt _ _ _ _ from ((KH.out.alloc z).drew.box (1, [.int .i64 0, .int .i64 0, .int .i64 1]) (by simp)).2)
          have h0_vturns := Lib.hid (fun z => show World.rangeAt _ _ _ _ from ((KH.out.alloc z).drew.box (3, [.int .i64 1, .int .i64 0, .int .i64 1, .int .i64 0, .int .i64 1, .int .i64 1, .int .i64 (-1), .int .i64 0, .int .i64 1, .int .i64 0, .int .i64 (-1), .int .i64 1]) (by simp)).2)
          go_region_held3 (fun w' => (w'.cell? ⟨w1.heap.size, 0, none⟩ = some (.int .i64 r.a.re) ∧ w'.cell? ⟨w1.heap.size, 1, none⟩ = some (.int .i64 r.a.im) ∧ w'.cell? ⟨w1.heap.size, 2, none⟩ = some (.int .i64 r.a.den) ∧ w'.cell? ⟨w1.heap.size, 3, none⟩ = some (.int .i64 r.b.re) ∧ w'.cell? ⟨w1.heap.size, 4, none⟩ = some (.int .i64 r.b.im) ∧ w'.cell? ⟨w1.heap.size, 5, none⟩ = some (.int .i64 r.b.den) ∧ w'.cell? ⟨w1.heap.size, 6, none⟩ = some (.int .i64 r.c.re) ∧ w'.cell? ⟨w1.heap.size, 7, none⟩ = some (.int .i64 r.c.im) ∧ w'.cell? ⟨w1.heap.size, 8, none⟩ = some (.int .i64 r.c.den) ∧ w'.cell? ⟨w1.heap.size, 9, none⟩ = some (.int .i64 r.d.re) ∧ w'.cell? ⟨w1.heap.size, 10, none⟩ = some (.int .i64 r.d.im) ∧ w'.cell? ⟨w1.heap.size, 11, none⟩ = some (.int .i64 r.d.den)) ∧ (w'.cell? ⟨0, 0, none⟩ = some (.int .i64 1) ∧ w'.cell? ⟨0, 1, none⟩ = some (.int .i64 0) ∧ w'.cell? ⟨0, 2, none⟩ = some (.int .i64 1)) ∧ (w'.cell? ⟨1, 0, none⟩ = some (.int .i64 0) ∧ w'.cell? ⟨1, 1, none⟩ = some (.int .i64 0) ∧ w'.cell? ⟨1, 2, none⟩ = some (.int .i64 1)) ∧ (w'.cell? ⟨3, 0, none⟩ = some (.int .i64 1) ∧ w'.cell? ⟨3, 1, none⟩ = some (.int .i64 0) ∧ w'.cell? ⟨3, 2, none⟩ = some (.int .i64 1) ∧ w'.cell? ⟨3, 3, none⟩ = some (.int .i64 0) ∧ w'.cell? ⟨3, 4, none⟩ = some (.int .i64 1) ∧ w'.cell? ⟨3, 5, none⟩ = some (.int .i64 1) ∧ w'.cell? ⟨3, 6, none⟩ = some (.int .i64 (-1)) ∧ w'.cell? ⟨3, 7, none⟩ = some (.int .i64 0) ∧ w'.cell? ⟨3, 8, none⟩ = some (.int .i64 1) ∧ w'.cell? ⟨3, 9, none⟩ = some (.int .i64 0) ∧ w'.cell? ⟨3, 10, none⟩ = some (.int .i64 (-1)) ∧ w'.cell? ⟨3, 11, none⟩ = some (.int .i64 1))) (((try dsimp only); (first | (with_reducible exact ⟨cellsM (f0_r.out), cellsF (f0_vone.out), cellsF (f0_vzero.out), cellsM (f0_vturns.out)⟩) | (with_reducible exact ⟨cellsM (h0_r.out _), cellsF (h0_vone.out _), cellsF (h0_vzero.out _), cellsM (h0_vturns.out _)⟩) | (with_reducible exact ⟨cellsM (f1_r.out), cellsF (f1_vone.out), cellsF (f1_vzero.out), cellsM (f1_vturns.out)⟩) | (with_reducible exact ⟨cellsM (World.rangeAt_alloc f1_r.out _), cellsF (World.rangeAt_alloc f1_vone.out _), cellsF (World.rangeAt_alloc f1_vzero.out _), cellsM (World.rangeAt_alloc f1_vturns.out _)⟩) | (with_reducible exact ⟨cellsM (KS_r.out _ (by omega) (by omega) _ _ _ _ _ _ _ _ _ _ _ _), cellsF (KS_vone.out _ (by omega) (by omega) _ _ _ _ _ _ _ _ _ _ _ _), cellsF (KS_vzero.out _ (by omega) (by omega) _ _ _ _ _ _ _ _ _ _ _ _), cellsM (KS_vturns.out _ (by omega) (by omega) _ _ _ _ _ _ _ _ _ _ _ _)⟩)))) (first | (go_at_call 53; (with_reducible refine (imtm_m r ⟨⟨1, 0, 1⟩, ⟨0, 0, 1⟩, ⟨0, 0, 1⟩, ⟨-1, 0, 1⟩⟩ _).mono ?_); rintro e wr4_1 ho; rw [HA0.out] at ho; obtain ⟨rfl, hb⟩ : e = .returned (.tuple #[.agg #[.int .i64 A.a.re, .int .i64 A.a.im, .int .i64 A.a.den, .int .i64 A.b.re, .int .i64 A.b.im, .int .i64 A.b.den, .int .i64 A.c.re, .int .i64 A.c.im, .int .i64 A.c.den, .int .i64 A.d.re, .int .i64 A.d.im, .int .i64 A.d.den], .bool u]) ∧ Below _ _ _ := ho.fn; have K1 := Lib.hid (show BX w _ _ [(0, [.int .i64 1, .int .i64 0, .int .i64 1]), (1, [.int .i64 0, .int .i64 0, .int .i64 1]), (3, [.int .i64 1, .int .i64 0, .int .i64 1, .int .i64 0, .int .i64 1, .int .i64 1, .int .i64 (-1), .int .i64 0, .int .i64 1, .int .i64 0, .int .i64 (-1), .int .i64 1]), (w1.heap.size, [.int .i64 r.a.re, .int .i64 r.a.im, .int .i64 r.a.den, .int .i64 r.b.re, .int .i64 r.b.im, .int .i64 r.b.den, .int .i64 r.c.re, .int .i64 r.c.im, .int .i64 r.c.den, .int .i64 r.d.re, .int .i64 r.d.im, .int .i64 r.d.den])] wr4_1 from by first | (with_reducible exact KH.out.drew.next hb) | (with_reducible exact (KH.out.alloc _).drew.next hb)); have f1_r := Lib.hid (show World.rangeAt _ _ _ _ from (K1.out.box (w1.heap.size, [.int .i64 r.a.re, .int .i64 r.a.im, .int .i64 r.a.den, .int .i64 r.b.re, .int .i64 r.b.im, .int .i64 r.b.den, .int .i64 r.c.re, .int .i64 r.c.im, .int .i64 r.c.den, .int .i64 r.d.re, .int .i64 r.d.im, .int .i64 r.d.den]) (by simp)).2); have f1_vone := Lib.hid (show World.rangeAt _ _ _ _ from (K1.out.box (0, [.int .i64 1, .int .i64 0, .int .i64 1]) (by simp)).2); have f1_vzero := Lib.hid (show World.rangeAt _ _ _ _ from (K1.out.box (1, [.int .i64 0, .int .i64 0, .int .i64 1]) (by simp)).2); have f1_vturns := Lib.hid (show World.rangeAt _ _ _ _ from (K1.out.box (3, [.int .i64 1, .int .i64 0, .int .i64 1, .int .i64 0, .int .i64 1, .int .i64 1, .int .i64 (-1), .int .i64 0, .int .i64 1, .int .i64 0, .int .i64 (-1), .int .i64 1]) (by simp)).2); have hzr1 := hb.size; (try simp at hzr1); obtain ⟨BB, hBB, hb⟩ : ∃ B, B = _ ∧ Below B _ _ := ⟨_, rfl, hb⟩; (try simp at hBB); (first | (rcases Nat.lt_or_ge (w1.heap.size + 1) BB with hlt | hlt; rotate_left; (exfalso; omega); have yc := fun q => hb.cell (p := ⟨w1.heap.size + 1, q, none⟩) hlt; have yf := fun q => hb.frozen (p := ⟨w1.heap.size + 1, q, none⟩) hlt; (first | (have RD := Lib.hid (RD.out.below hb hlt)) | (have RD : Hid (Room wr4_1 (w1.heap.size + 1) 4) := (by show Room _ _ _; refine Room.below ?_ hb hlt; first | (with_reducible refine Room.new' ?_ rfl; simp; done) | (with_reducible refine Room.drewF (Room.new' ?_ rfl); simp; done))) | skip); clear hlt) | skip); clear hBB; have KS := Lib.hid (fun (D : Nat) h2 h4 (v0 : Value) (v1 : Value) (v2 : Value) (v3 : Value) (v4 : Value) (v5 : Value) (v6 : Value) (v7 : Value) (v8 : Value) (v9 : Value) (v10 : Value) (v11 : Value) => K1.out.store (D := D) h2 h4 [v0, v1, v2, v3, v4, v5, v6, v7, v8, v9, v10, v11]); have KS := Lib.hid (by have hh := KS.out; simp only [World.setCells, Nat.zero_add, Nat.reduceAdd] at hh; exact hh); have KS_r := Lib.hid (fun (D : Nat) (h2 : w1.heap.size ≠ D) (h4 : w.heap.size ≤ D) (v0 : Value) (v1 : Value) (v2 : Value) (v3 : Value) (v4 : Value) (v5 : Value) (v6 : Value) (v7 : Value) (v8 : Value) (v9 : Value) (v10 : Value) (v11 : Value) => World.rangeAt_setCells_apart (show World.rangeAt wr4_1 (w1.heap.size) 0 [.int .i64 r.a.re, .int .i64 r.a.im, .int .i64 r.a.den, .int .i64 r.b.re, .int .i64 r.b.im, .int .i64 r.b.den, .int .i64 r.c.re, .int .i64 r.c.im, .int .i64 r.c.den, .int .i64 r.d.re, .int .i64 r.d.im, .int .i64 r.d.den] from f1_r.out) D 0 [v0, v1, v2, v3, v4, v5, v6, v7, v8, v9, v10, v11] (Or.inl h2)); have KS_r := Lib.hid (by have hh := KS_r.out; simp only [World.setCells, Nat.zero_add, Nat.reduceAdd] at hh; exact hh); have KS_vone := Lib.hid (fun (D : Nat) (h2 : 0 ≠ D) (h4 : w.heap.size ≤ D) (v0 : Value) (v1 : Value) (v2 : Value) (v3 : Value) (v4 : Value) (v5 : Value) (v6 : Value) (v7 : Value) (v8 : Value) (v9 : Value) (v10 : Value) (v11 : Value) => World.rangeAt_setCells_apart (show World.rangeAt wr4_1 (0) 0 [.int .i64 1, .int .i64 0, .int .i64 1] from f1_vone.out) D 0 [v0, v1, v2, v3, v4, v5, v6, v7, v8, v9, v10, v11] (Or.inl h2)); have KS_vone := Lib.hid (by have hh := KS_vone.out; simp only [World.setCells, Nat.zero_add, Nat.reduceAdd] at hh; exact hh); have KS_vzero := Lib.hid (fun (D : Nat) (h2 : 1 ≠ D) (h4 : w.heap.size ≤ D) (v0 : Value) (v1 : Value) (v2 : Value) (v3 : Value) (v4 : Value) (v5 : Value) (v6 : Value) (v7 : Value) (v8 : Value) (v9 : Value) (v10 : Value) (v11 : Value) => World.rangeAt_setCells_apart (show World.rangeAt wr4_1 (1) 0 [.int .i64 0, .int .i64 0, .int .i64 1] from f1_vzero.out) D 0 [v0, v1, v2, v3, v4, v5, v6, v7, v8, v9, v10, v11] (Or.inl h2)); have KS_vzero := Lib.hid (by have hh := KS_vzero.out; simp only [World.setCells, Nat.zero_add, Nat.reduceAdd] at hh; exact hh); have KS_vturns := Lib.hid (fun (D : Nat) (h2 : 3 ≠ D) (h4 : w.heap.size ≤ D) (v0 : Value) (v1 : Value) (v2 : Value) (v3 : Value) (v4 : Value) (v5 : Value) (v6 : Value) (v7 : Value) (v8 : Value) (v9 : Value) (v10 : Value) (v11 : Value) => World.rangeAt_setCells_apart (show World.rangeAt wr4_1 (3) 0 [.int .i64 1, .int .i64 0, .int .i64 1, .int .i64 0, .int .i64 1, .int .i64 1, .int .i64 (-1), .int .i64 0, .int .i64 1, .int .i64 0, .int .i64 (-1), .int .i64 1] from f1_vturns.out) D 0 [v0, v1, v2, v3, v4, v5, v6, v7, v8, v9, v10, v11] (Or.inl h2)); have KS_vturns := Lib.hid (by have hh := KS_vturns.out; simp only [World.setCells, Nat.zero_add, Nat.reduceAdd] at hh; exact hh); clear ho hb))
          all_goals (go_wp2_with fail; go_meet)
          all_goals (first
              | (refine ⟨w1.heap.size + 1, rfl, rfl, by omega, ?_⟩; have kS := KS.out (w1.heap.size + 1) (by intro e he; simp only [List.mem_cons, List.not_mem_nil, or_false] at he; rcases he with rfl | rfl | rfl | rfl <;> (show _ ≠ _; omega)) (by omega) (.int .i64 A.a.re) (.int .i64 A.a.im) (.int .i64 A.a.den) (.int .i64 A.b.re) (.int .i64 A.b.im) (.int .i64 A.b.den) (.int .i64 A.c.re) (.int .i64 A.c.im) (.int .i64 A.c.den) (.int .i64 A.d.re) (.int .i64 A.d.im) (.int .i64 A.d.den); have hh := fun W h => World.rangeAt_setCells_same W (w1.heap.size + 1) 0 [.int .i64 A.a.re, .int .i64 A.a.im, .int .i64 A.a.den, .int .i64 A.b.re, .int .i64 A.b.im, .int .i64 A.b.den, .int .i64 A.c.re, .int .i64 A.c.im, .int .i64 A.c.den, .int .i64 A.d.re, .int .i64 A.d.im, .int .i64 A.d.den] h; simp only [World.setCells, Nat.zero_add, Nat.reduceAdd] at hh; have hr := hh _ RD.out.there; have hE := RD.out.ltF (by omega); exact kS.add (by simpa using hE) hr)
              | (refine ⟨wr4_1.heap.size, rfl, rfl, by omega, ?_⟩; have kS := K1.out.alloc (.cells #[.int .i64 A.a.re, .int .i64 A.a.im, .int .i64 A.a.den, .int .i64 A.b.re, .int .i64 A.b.im, .int .i64 A.b.den, .int .i64 A.c.re, .int .i64 A.c.im, .int .i64 A.c.den, .int .i64 A.d.re, .int .i64 A.d.im, .int .i64 A.d.den] 41); exact kS.add (by simp) (rangeAt_new _ _ _)))
        case rest =>
        obtain ⟨D4, rfl, rfl, hlo4, KC⟩ := hcut
        obtain ⟨wq4, hwq⟩ : ∃ x, x = wc := ⟨_, rfl⟩
        rw [← hwq] at KC
        rw [← hwq]
        clear hwq
        obtain ⟨hl_aa, hr_aa⟩ := KC.box (D4, [.int .i64 A.a.re, .int .i64 A.a.im, .int .i64 A.a.den, .int .i64 A.b.re, .int .i64 A.b.im, .int .i64 A.b.den, .int .i64 A.c.re, .int .i64 A.c.im, .int .i64 A.c.den, .int .i64 A.d.re, .int .i64 A.d.im, .int .i64 A.d.den]) (by simp)
        have Haa := Lib.hid hr_aa
        clear hr_aa
        obtain ⟨hl_vone, hr_vone⟩ := KC.box (0, [.int .i64 1, .int .i64 0, .int .i64 1]) (by simp)
        have Hvone := Lib.hid hr_vone
        clear hr_vone
        obtain ⟨hl_vzero, hr_vzero⟩ := KC.box (1, [.int .i64 0, .int .i64 0, .int .i64 1]) (by simp)
        have Hvzero := Lib.hid hr_vzero
        clear hr_vzero
        obtain ⟨hl_vturns, hr_vturns⟩ := KC.box (3, [.int .i64 1, .int .i64 0, .int .i64 1, .int .i64 0, .int .i64 1, .int .i64 1, .int .i64 (-1), .int .i64 0, .int .i64 1, .int .i64 0, .int .i64 (-1), .int .i64 1]) (by simp)
        have Hvturns := Lib.hid hr_vturns
        clear hr_vturns
        obtain ⟨hl_r, hr_r⟩ := KC.box (w1.heap.size, [.int .i64 r.a.re, .int .i64 r.a.im, .int .i64 r.a.den, .int .i64 r.b.re, .int .i64 r.b.im, .int .i64 r.b.den, .int .i64 r.c.re, .int .i64 r.c.im, .int .i64 r.c.den, .int .i64 r.d.re, .int .i64 r.d.im, .int .i64 r.d.den]) (by simp)
        have Hr := Lib.hid hr_r
        clear hr_r
        have HB := Lib.hid KC.below
        have HR := Lib.hid KC.room
        have hRl : w.heap.size < wq4.heap.size := by rcases KC.hR with h | h <;> omega
        clear KC KH
        have nA4 : D4 < wq4.heap.size := by first | assumption | omega
        have nB4 : ¬ D4 = wq4.heap.size := by omega
        have nC4 : ¬ wq4.heap.size = D4 := by omega
        have nA0 : 0 < wq4.heap.size := by first | assumption | omega
        have nB0 : ¬ 0 = wq4.heap.size := by omega
        have nC0 : ¬ wq4.heap.size = 0 := by omega
        have nA1 : 1 < wq4.heap.size := by first | assumption | omega
        have nB1 : ¬ 1 = wq4.heap.size := by omega
        have nC1 : ¬ wq4.heap.size = 1 := by omega
        have nA2 : 3 < wq4.heap.size := by first | assumption | omega
        have nB2 : ¬ 3 = wq4.heap.size := by omega
        have nC2 : ¬ wq4.heap.size = 3 := by omega
        have nA5 : w1.heap.size < wq4.heap.size := by first | assumption | omega
        have nB5 : ¬ w1.heap.size = wq4.heap.size := by omega
        have nC5 : ¬ wq4.heap.size = w1.heap.size := by omega
        have nA3 : w.heap.size < wq4.heap.size := by first | assumption | omega
        have nB3 : ¬ w.heap.size = wq4.heap.size := by omega
        have nC3 : ¬ wq4.heap.size = w.heap.size := by omega
        go_wp2_with (first | ((with_reducible refine wpList_load_mid ?kl261 41 ?kl26x ?kl262 (w1.heap.size) 0 ?kl263 [.int .i64 r.a.re, .int .i64 r.a.im, .int .i64 r.a.den, .int .i64 r.b.re, .int .i64 r.b.im, .int .i64 r.b.den, .int .i64 r.c.re, .int .i64 r.c.im, .int .i64 r.c.den, .int .i64 r.d.re, .int .i64 r.d.im, .int .i64 r.d.den] ?kl26d ?kl264 ?kl265 ?kl266 ?kl267 ?kl268); (case kl262 => rfl); (case kl261 => rfl); (case kl263 => rfl); (case kl264 => (exact Hr.out)); (case kl265 => exact Tryd.underlying41); (case kl266 => rfl); (case kl267 => kernel_rfl)))
        refine (imatadj_any r _).mono ?_
        rintro e w3 ho
        rw [HB0.out] at ho
        obtain ⟨rfl, hb⟩ : e = .returned (.tuple #[.agg #[.int .i64 B.a.re, .int .i64 B.a.im, .int .i64 B.a.den, .int .i64 B.b.re, .int .i64 B.b.im, .int .i64 B.b.den, .int .i64 B.c.re, .int .i64 B.c.im, .int .i64 B.c.den, .int .i64 B.d.re, .int .i64 B.d.im, .int .i64 B.d.den], .bool b]) ∧ Below _ _ _ := ho.fn
        clear ho
        have HB := Lib.hid (show Below w.heap.size w w3 from HB.out.trans ((show Below _ _ _ from (Below.refl _ _)).trans (hb.mono (by first | omega | (simp <;> omega)))))
        have Haa : Hid (w3.rangeAt (D4) 0 [.int .i64 A.a.re, .int .i64 A.a.im, .int .i64 A.a.den, .int .i64 A.b.re, .int .i64 A.b.im, .int .i64 A.b.den, .int .i64 A.c.re, .int .i64 A.c.im, .int .i64 A.c.den, .int .i64 A.d.re, .int .i64 A.d.im, .int .i64 A.d.den]) := rangeAt_below Haa.out hb (by first | omega | (simp; done) | (simp <;> omega))
        have Hvone : Hid (w3.rangeAt (0) 0 [.int .i64 1, .int .i64 0, .int .i64 1]) := rangeAt_below Hvone.out hb (by first | omega | (simp; done) | (simp <;> omega))
        have Hvzero : Hid (w3.rangeAt (1) 0 [.int .i64 0, .int .i64 0, .int .i64 1]) := rangeAt_below Hvzero.out hb (by first | omega | (simp; done) | (simp <;> omega))
        have Hvturns : Hid (w3.rangeAt (3) 0 [.int .i64 1, .int .i64 0, .int .i64 1, .int .i64 0, .int .i64 1, .int .i64 1, .int .i64 (-1), .int .i64 0, .int .i64 1, .int .i64 0, .int .i64 (-1), .int .i64 1]) := rangeAt_below Hvturns.out hb (by first | omega | (simp; done) | (simp <;> omega))
        have Hr : Hid (w3.rangeAt (w1.heap.size) 0 [.int .i64 r.a.re, .int .i64 r.a.im, .int .i64 r.a.den, .int .i64 r.b.re, .int .i64 r.b.im, .int .i64 r.b.den, .int .i64 r.c.re, .int .i64 r.c.im, .int .i64 r.c.den, .int .i64 r.d.re, .int .i64 r.d.im, .int .i64 r.d.den]) := rangeAt_below Hr.out hb (by first | omega | (simp; done) | (simp <;> omega))
        have HR := Lib.hid ((show Room _ (w.heap.size) 4 from HR.out).below hb (by first | omega | (simp <;> omega)))
        have hz3 := hb.size
        (try simp at hz3)
        clear hb
        have hne3 : ¬ w3.heap = #[] := fun h => absurd (show 0 < 0 from (by have hh : 0 < w3.heap.size := (by omega); rw [h] at hh; exact hh)) (Nat.not_lt_zero _)
        have nA4 : D4 < w3.heap.size := by omega
        have nB4 : ¬ D4 = w3.heap.size := by omega
        have nC4 : ¬ w3.heap.size = D4 := by omega
        have nA0 : 0 < w3.heap.size := by omega
        have nB0 : ¬ 0 = w3.heap.size := by omega
        have nC0 : ¬ w3.heap.size = 0 := by omega
        have nA1 : 1 < w3.heap.size := by omega
        have nB1 : ¬ 1 = w3.heap.size := by omega
        have nC1 : ¬ w3.heap.size = 1 := by omega
        have nA2 : 3 < w3.heap.size := by omega
        have nB2 : ¬ 3 = w3.heap.size := by omega
        have nC2 : ¬ w3.heap.size = 3 := by omega
        have nA5 : w1.heap.size < w3.heap.size := by omega
        have nB5 : ¬ w1.heap.size = w3.heap.size := by omega
        have nC5 : ¬ w3.heap.size = w1.heap.size := by omega
        have nA3 : w.heap.size < w3.heap.size := by omega
        have nB3 : ¬ w.heap.size = w3.heap.size := by omega
        have nC3 : ¬ w3.heap.size = w.heap.size := by omega
        go_wp2_with (first | ((with_reducible refine wpList_load_mid ?kl271 41 ?kl27x ?kl272 (D4) 0 ?kl273 [.int .i64 A.a.re, .int .i64 A.a.im, .int .i64 A.a.den, .int .i64 A.b.re, .int .i64 A.b.im, .int .i64 A.b.den, .int .i64 A.c.re, .int .i64 A.c.im, .int .i64 A.c.den, .int .i64 A.d.re, .int .i64 A.d.im, .int .i64 A.d.den] ?kl27d ?kl274 ?kl275 ?kl276 ?kl277 ?kl278); (case kl272 => rfl); (case kl271 => rfl); (case kl273 => rfl); (case kl274 => (exact (World.rangeAt_alloc Haa.out _))); (case kl275 => exact Tryd.underlying41); (case kl276 => rfl); (case kl277 => kernel_rfl)) | ((with_reducible refine wpList_load_mid ?kl281 41 ?kl28x ?kl282 (w3.heap.size) 0 ?kl283 [.int .i64 B.a.re, .int .i64 B.a.im, .int .i64 B.a.den, .int .i64 B.b.re, .int .i64 B.b.im, .int .i64 B.b.den, .int .i64 B.c.re, .int .i64 B.c.im, .int .i64 B.c.den, .int .i64 B.d.re, .int .i64 B.d.im, .int .i64 B.d.den] ?kl28d ?kl284 ?kl285 ?kl286 ?kl287 ?kl288); (case kl282 => rfl); (case kl281 => rfl); (case kl283 => rfl); (case kl284 => (exact (rangeAt_new _ _ _))); (case kl285 => exact Tryd.underlying41); (case kl286 => rfl); (case kl287 => kernel_rfl)))
        refine (imtm_m A B _).mono ?_
        rintro e w4 ho
        rw [HC0.out] at ho
        obtain ⟨rfl, hb⟩ : e = .returned (.tuple #[.agg #[.int .i64 C.a.re, .int .i64 C.a.im, .int .i64 C.a.den, .int .i64 C.b.re, .int .i64 C.b.im, .int .i64 C.b.den, .int .i64 C.c.re, .int .i64 C.c.im, .int .i64 C.c.den, .int .i64 C.d.re, .int .i64 C.d.im, .int .i64 C.d.den], .bool v]) ∧ Below _ _ _ := ho.fn
        clear ho
        have HB := Lib.hid (show Below w.heap.size w w4 from HB.out.trans ((show Below _ _ _ from ((Below.refl _ _).alloc (by first | omega | (simp; done) | (simp <;> omega)) _)).trans (hb.mono (by first | omega | (simp <;> omega)))))
        have Haa : Hid (w4.rangeAt (D4) 0 [.int .i64 A.a.re, .int .i64 A.a.im, .int .i64 A.a.den, .int .i64 A.b.re, .int .i64 A.b.im, .int .i64 A.b.den, .int .i64 A.c.re, .int .i64 A.c.im, .int .i64 A.c.den, .int .i64 A.d.re, .int .i64 A.d.im, .int .i64 A.d.den]) := rangeAt_below (World.rangeAt_alloc Haa.out _) hb (by first | omega | (simp; done) | (simp <;> omega))
        have Hvone : Hid (w4.rangeAt (0) 0 [.int .i64 1, .int .i64 0, .int .i64 1]) := rangeAt_below (World.rangeAt_alloc Hvone.out _) hb (by first | omega | (simp; done) | (simp <;> omega))
        have Hvzero : Hid (w4.rangeAt (1) 0 [.int .i64 0, .int .i64 0, .int .i64 1]) := rangeAt_below (World.rangeAt_alloc Hvzero.out _) hb (by first | omega | (simp; done) | (simp <;> omega))
        have Hvturns : Hid (w4.rangeAt (3) 0 [.int .i64 1, .int .i64 0, .int .i64 1, .int .i64 0, .int .i64 1, .int .i64 1, .int .i64 (-1), .int .i64 0, .int .i64 1, .int .i64 0, .int .i64 (-1), .int .i64 1]) := rangeAt_below (World.rangeAt_alloc Hvturns.out _) hb (by first | omega | (simp; done) | (simp <;> omega))
        have Hr : Hid (w4.rangeAt (w1.heap.size) 0 [.int .i64 r.a.re, .int .i64 r.a.im, .int .i64 r.a.den, .int .i64 r.b.re, .int .i64 r.b.im, .int .i64 r.b.den, .int .i64 r.c.re, .int .i64 r.c.im, .int .i64 r.c.den, .int .i64 r.d.re, .int .i64 r.d.im, .int .i64 r.d.den]) := rangeAt_below (World.rangeAt_alloc Hr.out _) hb (by first | omega | (simp; done) | (simp <;> omega))
        have HR := Lib.hid ((show Room _ (w.heap.size) 4 from (HR.out.alloc (by first | omega | (simp; done) | (simp <;> omega)) _)).below hb (by first | omega | (simp <;> omega)))
        have Hbb : Hid (w4.rangeAt (w3.heap.size) 0 [.int .i64 B.a.re, .int .i64 B.a.im, .int .i64 B.a.den, .int .i64 B.b.re, .int .i64 B.b.im, .int .i64 B.b.den, .int .i64 B.c.re, .int .i64 B.c.im, .int .i64 B.c.den, .int .i64 B.d.re, .int .i64 B.d.im, .int .i64 B.d.den]) := rangeAt_below (rangeAt_new _ _ _) hb (by first | omega | (simp; done) | (simp <;> omega))
        have hz4 := hb.size
        (try simp at hz4)
        clear hb
        have hne4 : ¬ w4.heap = #[] := fun h => absurd (show 0 < 0 from (by have hh : 0 < w4.heap.size := (by omega); rw [h] at hh; exact hh)) (Nat.not_lt_zero _)
        have nA4 : D4 < w4.heap.size := by omega
        have nB4 : ¬ D4 = w4.heap.size := by omega
        have nC4 : ¬ w4.heap.size = D4 := by omega
        have nA0 : 0 < w4.heap.size := by omega
        have nB0 : ¬ 0 = w4.heap.size := by omega
        have nC0 : ¬ w4.heap.size = 0 := by omega
        have nA1 : 1 < w4.heap.size := by omega
        have nB1 : ¬ 1 = w4.heap.size := by omega
        have nC1 : ¬ w4.heap.size = 1 := by omega
        have nA2 : 3 < w4.heap.size := by omega
        have nB2 : ¬ 3 = w4.heap.size := by omega
        have nC2 : ¬ w4.heap.size = 3 := by omega
        have nA5 : w1.heap.size < w4.heap.size := by omega
        have nB5 : ¬ w1.heap.size = w4.heap.size := by omega
        have nC5 : ¬ w4.heap.size = w1.heap.size := by omega
        have nA6 : w3.heap.size < w4.heap.size := by omega
        have nB6 : ¬ w3.heap.size = w4.heap.size := by omega
        have nC6 : ¬ w4.heap.size = w3.heap.size := by omega
        have nA3 : w.heap.size < w4.heap.size := by omega
        have nB3 : ¬ w.heap.size = w4.heap.size := by omega
        have nC3 : ¬ w4.heap.size = w.heap.size := by omega
        cases u
        · skip
          have HG : Hid (gPla p q 2 = (m4z, false)) := HGg.out
          clear HGg
          have hth := (show Room (w4.alloc (.cells #[.int .i64 C.a.re, .int .i64 C.a.im, .int .i64 C.a.den, .int .i64 C.b.re, .int .i64 C.b.im, .int .i64 C.b.den, .int .i64 C.c.re, .int .i64 C.c.im, .int .i64 C.c.den, .int .i64 C.d.re, .int .i64 C.d.im, .int .i64 C.d.den] 41)) (w.heap.size) 4 from (HR.out.alloc (by first | omega | (simp; done) | (simp <;> omega)) _)).there
          go_wp2_with (first | ((with_reducible refine wpList_store_mid ?kl291 41 ?kl29x ?kl29y ?kl292 (w.heap.size) 0 #[.int .i64 0, .int .i64 0, .int .i64 0, .int .i64 0, .int .i64 0, .int .i64 0, .int .i64 0, .int .i64 0, .int .i64 0, .int .i64 0, .int .i64 0, .int .i64 0] ?kl293 ?kl294 ?kl295 ?kl296 ?kl297 ?kl298); (case kl292 => rfl); (case kl291 => rfl); (case kl293 => rfl); (case kl294 => rfl); (case kl295 => exact hth); (case kl296 => kernel_rfl); (case kl297 => exact (by simp [Value.oneCell']))))
          refine bodyPost_ret (v := .tuple #[.agg #[.int .i64 0, .int .i64 0, .int .i64 0, .int .i64 0, .int .i64 0, .int .i64 0, .int .i64 0, .int .i64 0, .int .i64 0, .int .i64 0, .int .i64 0, .int .i64 0], .bool false]) ?_ rfl (M4Out.no HG.out ?_)
          · exact Eq.trans (results_cell_mid2 Tryd.results50 _ _ (w.heap.size) [.int .i64 0, .int .i64 0, .int .i64 0, .int .i64 0, .int .i64 0, .int .i64 0, .int .i64 0, .int .i64 0, .int .i64 0, .int .i64 0, .int .i64 0, .int .i64 0] _ (by rfl) (World.rangeAt_setCells_same _ (w.heap.size) 0 [.int .i64 0, .int .i64 0, .int .i64 0, .int .i64 0, .int .i64 0, .int .i64 0, .int .i64 0, .int .i64 0, .int .i64 0, .int .i64 0, .int .i64 0, .int .i64 0] hth) Tryd.underlying41 rfl (by kernel_rfl)) rfl
          · (repeat' first | (with_reducible exact HB.out) | with_reducible refine setCells_below _ _ _ ?_ (by first | omega | (simp <;> omega)) | with_reducible refine Below.setCell ?_ (by show _ ≤ _; first | omega | (simp <;> omega) | simp) _ | with_reducible refine Below.alloc ?_ (by first | omega | (simp <;> omega)) _ | with_reducible apply Below.drew | with_reducible refine below_drewN ?_ _)
        · cases v
          · skip
            have HG : Hid (gPla p q 2 = (m4z, false)) := HGg.out
            clear HGg
            have hth := (show Room (w4.alloc (.cells #[.int .i64 C.a.re, .int .i64 C.a.im, .int .i64 C.a.den, .int .i64 C.b.re, .int .i64 C.b.im, .int .i64 C.b.den, .int .i64 C.c.re, .int .i64 C.c.im, .int .i64 C.c.den, .int .i64 C.d.re, .int .i64 C.d.im, .int .i64 C.d.den] 41)) (w.heap.size) 4 from (HR.out.alloc (by first | omega | (simp; done) | (simp <;> omega)) _)).there
            go_wp2_with (first | ((with_reducible refine wpList_store_mid ?kl301 41 ?kl30x ?kl30y ?kl302 (w.heap.size) 0 #[.int .i64 0, .int .i64 0, .int .i64 0, .int .i64 0, .int .i64 0, .int .i64 0, .int .i64 0, .int .i64 0, .int .i64 0, .int .i64 0, .int .i64 0, .int .i64 0] ?kl303 ?kl304 ?kl305 ?kl306 ?kl307 ?kl308); (case kl302 => rfl); (case kl301 => rfl); (case kl303 => rfl); (case kl304 => rfl); (case kl305 => exact hth); (case kl306 => kernel_rfl); (case kl307 => exact (by simp [Value.oneCell']))))
            refine bodyPost_ret (v := .tuple #[.agg #[.int .i64 0, .int .i64 0, .int .i64 0, .int .i64 0, .int .i64 0, .int .i64 0, .int .i64 0, .int .i64 0, .int .i64 0, .int .i64 0, .int .i64 0, .int .i64 0], .bool false]) ?_ rfl (M4Out.no HG.out ?_)
            · exact Eq.trans (results_cell_mid2 Tryd.results50 _ _ (w.heap.size) [.int .i64 0, .int .i64 0, .int .i64 0, .int .i64 0, .int .i64 0, .int .i64 0, .int .i64 0, .int .i64 0, .int .i64 0, .int .i64 0, .int .i64 0, .int .i64 0] _ (by rfl) (World.rangeAt_setCells_same _ (w.heap.size) 0 [.int .i64 0, .int .i64 0, .int .i64 0, .int .i64 0, .int .i64 0, .int .i64 0, .int .i64 0, .int .i64 0, .int .i64 0, .int .i64 0, .int .i64 0, .int .i64 0] hth) Tryd.underlying41 rfl (by kernel_rfl)) rfl
            · (repeat' first | (with_reducible exact HB.out) | with_reducible refine setCells_below _ _ _ ?_ (by first | omega | (simp <;> omega)) | with_reducible refine Below.setCell ?_ (by show _ ≤ _; first | omega | (simp <;> omega) | simp) _ | with_reducible refine Below.alloc ?_ (by first | omega | (simp <;> omega)) _ | with_reducible apply Below.drew | with_reducible refine below_drewN ?_ _)
          · skip
            have HG : Hid (gPla p q 2 = (C, true)) := HGg.out
            clear HGg
            have hth := (show Room (w4.alloc (.cells #[.int .i64 C.a.re, .int .i64 C.a.im, .int .i64 C.a.den, .int .i64 C.b.re, .int .i64 C.b.im, .int .i64 C.b.den, .int .i64 C.c.re, .int .i64 C.c.im, .int .i64 C.c.den, .int .i64 C.d.re, .int .i64 C.d.im, .int .i64 C.d.den] 41)) (w.heap.size) 4 from (HR.out.alloc (by first | omega | (simp; done) | (simp <;> omega)) _)).there
            go_wp2_with (first | (first | ((with_reducible refine wpList_load_mid ?kl311 41 ?kl31x ?kl312 (w4.heap.size) 0 ?kl313 [.int .i64 C.a.re, .int .i64 C.a.im, .int .i64 C.a.den, .int .i64 C.b.re, .int .i64 C.b.im, .int .i64 C.b.den, .int .i64 C.c.re, .int .i64 C.c.im, .int .i64 C.c.den, .int .i64 C.d.re, .int .i64 C.d.im, .int .i64 C.d.den] ?kl31d ?kl314 ?kl315 ?kl316 ?kl317 ?kl318); (case kl312 => rfl); (case kl311 => rfl); (case kl313 => rfl); (case kl314 => (exact (rangeAt_new _ _ _))); (case kl315 => exact Tryd.underlying41); (case kl316 => rfl); (case kl317 => kernel_rfl))) | ((with_reducible refine wpList_store_mid ?kl321 41 ?kl32x ?kl32y ?kl322 (w.heap.size) 0 #[.int .i64 C.a.re, .int .i64 C.a.im, .int .i64 C.a.den, .int .i64 C.b.re, .int .i64 C.b.im, .int .i64 C.b.den, .int .i64 C.c.re, .int .i64 C.c.im, .int .i64 C.c.den, .int .i64 C.d.re, .int .i64 C.d.im, .int .i64 C.d.den] ?kl323 ?kl324 ?kl325 ?kl326 ?kl327 ?kl328); (case kl322 => rfl); (case kl321 => rfl); (case kl323 => rfl); (case kl324 => rfl); (case kl325 => exact hth); (case kl326 => kernel_rfl); (case kl327 => exact (by simp [Value.oneCell']))))
            refine bodyPost_ret (v := .tuple #[.agg #[.int .i64 C.a.re, .int .i64 C.a.im, .int .i64 C.a.den, .int .i64 C.b.re, .int .i64 C.b.im, .int .i64 C.b.den, .int .i64 C.c.re, .int .i64 C.c.im, .int .i64 C.c.den, .int .i64 C.d.re, .int .i64 C.d.im, .int .i64 C.d.den], .bool true]) ?_ rfl (M4Out.yes (f := C) (by rw [HG.out]) (by rw [HG.out]) ?_)
            · exact Eq.trans (results_cell_mid2 Tryd.results50 _ _ (w.heap.size) [.int .i64 C.a.re, .int .i64 C.a.im, .int .i64 C.a.den, .int .i64 C.b.re, .int .i64 C.b.im, .int .i64 C.b.den, .int .i64 C.c.re, .int .i64 C.c.im, .int .i64 C.c.den, .int .i64 C.d.re, .int .i64 C.d.im, .int .i64 C.d.den] _ (by rfl) (World.rangeAt_setCells_same _ (w.heap.size) 0 [.int .i64 C.a.re, .int .i64 C.a.im, .int .i64 C.a.den, .int .i64 C.b.re, .int .i64 C.b.im, .int .i64 C.b.den, .int .i64 C.c.re, .int .i64 C.c.im, .int .i64 C.c.den, .int .i64 C.d.re, .int .i64 C.d.im, .int .i64 C.d.den] hth) Tryd.underlying41 rfl (by kernel_rfl)) rfl
            · (repeat' first | (with_reducible exact HB.out) | with_reducible refine setCells_below _ _ _ ?_ (by first | omega | (simp <;> omega)) | with_reducible refine Below.setCell ?_ (by show _ ≤ _; first | omega | (simp <;> omega) | simp) _ | with_reducible refine Below.alloc ?_ (by first | omega | (simp <;> omega)) _ | with_reducible apply Below.drew | with_reducible refine below_drewN ?_ _)
      · skip
        have HA0 : Hid (mTm r ⟨⟨1, 0, 1⟩, ⟨0, 0, 1⟩, ⟨0, 0, 1⟩, ⟨0, -1, 1⟩⟩ = (A, u)) := HA0.out
        have ia : (0 : Int) ≤ 3 := by omega
        have ib : (3 : Int) < 4 := by omega
        have HB : Hid (Below w.heap.size w w) := Below.refl _ _
        have hlt_one := hg_one.lt
        have Hvone : Hid (w.rangeAt 0 0 [.int .i64 1, .int .i64 0, .int .i64 1]) := by show World.rangeAt _ _ _ _; exact rangeOf1 hg_one.box
        have hlt_zero := hg_zero.lt
        have Hvzero : Hid (w.rangeAt 1 0 [.int .i64 0, .int .i64 0, .int .i64 1]) := by show World.rangeAt _ _ _ _; exact rangeOf1 hg_zero.box
        have hlt_turns := hg_turns.lt
        have Hvturns : Hid (w.rangeAt 3 0 [.int .i64 1, .int .i64 0, .int .i64 1, .int .i64 0, .int .i64 1, .int .i64 1, .int .i64 (-1), .int .i64 0, .int .i64 1, .int .i64 0, .int .i64 (-1), .int .i64 1]) := by show World.rangeAt _ _ _ _; exact BoxAt.range4 hg_turns.box
        have HG_one := Lib.hid hg_one; clear hg_one
        have HG_zero := Lib.hid hg_zero; clear hg_zero
        have HG_turns := Lib.hid hg_turns; clear hg_turns
        go_enter Tryd.func50, Tryd.ntmps50
        go_wp2_with fail
        refine (irot_any p q _).mono ?_
        rintro e w1 ho
        rw [HR0.out] at ho
        obtain ⟨rfl, hb⟩ : e = .returned (.tuple #[.agg #[.int .i64 r.a.re, .int .i64 r.a.im, .int .i64 r.a.den, .int .i64 r.b.re, .int .i64 r.b.im, .int .i64 r.b.den, .int .i64 r.c.re, .int .i64 r.c.im, .int .i64 r.c.den, .int .i64 r.d.re, .int .i64 r.d.im, .int .i64 r.d.den], .bool true]) ∧ Below _ _ _ := ho.fn
        clear ho
        have HB := Lib.hid (show Below w.heap.size w w1 from HB.out.trans ((show Below _ _ _ from ((Below.refl _ _).alloc (by first | omega | (simp; done) | (simp <;> omega)) _)).trans (hb.mono (by first | omega | (simp <;> omega)))))
        have Hvone : Hid (w1.rangeAt (0) 0 [.int .i64 1, .int .i64 0, .int .i64 1]) := rangeAt_below (World.rangeAt_alloc Hvone.out _) hb (by first | omega | (simp; done) | (simp <;> omega))
        have Hvzero : Hid (w1.rangeAt (1) 0 [.int .i64 0, .int .i64 0, .int .i64 1]) := rangeAt_below (World.rangeAt_alloc Hvzero.out _) hb (by first | omega | (simp; done) | (simp <;> omega))
        have Hvturns : Hid (w1.rangeAt (3) 0 [.int .i64 1, .int .i64 0, .int .i64 1, .int .i64 0, .int .i64 1, .int .i64 1, .int .i64 (-1), .int .i64 0, .int .i64 1, .int .i64 0, .int .i64 (-1), .int .i64 1]) := rangeAt_below (World.rangeAt_alloc Hvturns.out _) hb (by first | omega | (simp; done) | (simp <;> omega))
        have HR := Lib.hid ((show Room _ (w.heap.size) 4 from (Room.new' rfl rfl)).below hb (by first | omega | (simp <;> omega)))
        have hz1 := hb.size
        (try simp at hz1)
        clear hb
        have hne1 : ¬ w1.heap = #[] := fun h => absurd (show 0 < 0 from (by have hh : 0 < w1.heap.size := (by omega); rw [h] at hh; exact hh)) (Nat.not_lt_zero _)
        have nA0 : 0 < w1.heap.size := by omega
        have nB0 : ¬ 0 = w1.heap.size := by omega
        have nC0 : ¬ w1.heap.size = 0 := by omega
        have nA1 : 1 < w1.heap.size := by omega
        have nB1 : ¬ 1 = w1.heap.size := by omega
        have nC1 : ¬ w1.heap.size = 1 := by omega
        have nA2 : 3 < w1.heap.size := by omega
        have nB2 : ¬ 3 = w1.heap.size := by omega
        have nC2 : ¬ w1.heap.size = 3 := by omega
        have nA3 : w.heap.size < w1.heap.size := by omega
        have nB3 : ¬ w.heap.size = w1.heap.size := by omega
        have nC3 : ¬ w1.heap.size = w.heap.size := by omega
        have KH : Hid (BX w (w.heap.size) 4 [(0, [.int .i64 1, .int .i64 0, .int .i64 1]), (1, [.int .i64 0, .int .i64 0, .int .i64 1]), (3, [.int .i64 1, .int .i64 0, .int .i64 1, .int .i64 0, .int .i64 1, .int .i64 1, .int .i64 (-1), .int .i64 0, .int .i64 1, .int .i64 0, .int .i64 (-1), .int .i64 1]), (w1.heap.size, [.int .i64 r.a.re, .int .i64 r.a.im, .int .i64 r.a.den, .int .i64 r.b.re, .int .i64 r.b.im, .int .i64 r.b.den, .int .i64 r.c.re, .int .i64 r.c.im, .int .i64 r.c.den, .int .i64 r.d.re, .int .i64 r.d.im, .int .i64 r.d.den])] (w1.alloc (.cells #[.int .i64 r.a.re, .int .i64 r.a.im, .int .i64 r.a.den, .int .i64 r.b.re, .int .i64 r.b.im, .int .i64 r.b.den, .int .i64 r.c.re, .int .i64 r.c.im, .int .i64 r.c.den, .int .i64 r.d.re, .int .i64 r.d.im, .int .i64 r.d.den] 41))) := by
          show BX _ _ _ _ _
          refine ⟨(Below.alloc HB.out (by first | omega | (simp; done) | (simp <;> omega)) _), Or.inl (by first | omega | (simp <;> omega)), (HR.out.alloc (by first | omega | (simp; done) | (simp <;> omega)) _), ?_⟩
          intro e he
          simp only [List.mem_cons, List.not_mem_nil, or_false] at he
          rcases he with rfl | rfl | rfl | rfl
          · exact ⟨by first | (show 0 < _; omega) | (show 0 < _; simp; done) | (show 0 < _; simp <;> omega), (World.rangeAt_alloc Hvone.out _)⟩
          · exact ⟨by first | (show 1 < _; omega) | (show 1 < _; simp; done) | (show 1 < _; simp <;> omega), (World.rangeAt_alloc Hvzero.out _)⟩
          · exact ⟨by first | (show 3 < _; omega) | (show 3 < _; simp; done) | (show 3 < _; simp <;> omega), (World.rangeAt_alloc Hvturns.out _)⟩
          · exact ⟨by first | (show w1.heap.size < _; omega) | (show w1.heap.size < _; simp; done) | (show w1.heap.size < _; simp <;> omega), (rangeAt_new _ _ _)⟩
        have hsz5 : w1.heap.size + 1 ≤ w1.heap.size + 1 := Nat.le_refl _
        go_upto_region 4 with (go_at_call 63; (with_reducible refine (within_b HK.out _).mono ?_); rintro e w' ⟨rfl, rfl⟩)
        go_cut [10, 11] (fun s10 s11 wx => ∃ D : Nat, s10 = .pointer (some ⟨D, 0, none⟩) ∧ s11 = .bool u ∧ w1.heap.size ≤ D ∧ BX w (w.heap.size) 4 ((D, [.int .i64 A.a.re, .int .i64 A.a.im, .int .i64 A.a.den, .int .i64 A.b.re, .int .i64 A.b.im, .int .i64 A.b.den, .int .i64 A.c.re, .int .i64 A.c.im, .int .i64 A.c.den, .int .i64 A.d.re, .int .i64 A.d.im, .int .i64 A.d.den]) :: [(0, [.int .i64 1, .int .i64 0, .int .i64 1]), (1, [.int .i64 0, .int .i64 0, .int .i64 1]), (3, [.int .i64 1, .int .i64 0, .int .i64 1, .int .i64 0, .int .i64 1, .int .i64 1, .int .i64 (-1), .int .i64 0, .int .i64 1, .int .i64 0, .int .i64 (-1), .int .i64 1]), (w1.heap.size, [.int .i64 r.a.re, .int .i64 r.a.im, .int .i64 r.a.den, .int .i64 r.b.re, .int .i64 r.b.im, .int .i64 r.b.den, .int .i64 r.c.re, .int .i64 r.c.im, .int .i64 r.c.den, .int .i64 r.d.re, .int .i64 r.d.im, .int .i64 r.d.den])]) wx)
        case first =>
          have f0_r := Lib.hid (show World.rangeAt _ _ _ _ from (KH.out.drew.box (w1.heap.size, [.int .i64 r.a.re, .int .i64 r.a.im, .int .i64 r.a.den, .int .i64 r.b.re, .int .i64 r.b.im, .int .i64 r.b.den, .int .i64 r.c.re, .int .i64 r.c.im, .int .i64 r.c.den, .int .i64 r.d.re, .int .i64 r.d.im, .int .i64 r.d.den]) (by simp)).2)
          have f0_vone := Lib.hid (show World.rangeAt _ _ _ _ from (KH.out.drew.box (0, [.int .i64 1, .int .i64 0, .int .i64 1]) (by simp)).2)
          have f0_vzero := Lib.hid (show World.rangeAt _ _ _ _ from (KH.out.drew.box (1, [.int .i64 0, .int .i64 0, .int .i64 1]) (by simp)).2)
          have f0_vturns := Lib.hid (show World.rangeAt _ _ _ _ from (KH.out.drew.box (3, [.int .i64 1, .int .i64 0, .int .i64 1, .int .i64 0, .int .i64 1, .int .i64 1, .int .i64 (-1), .int .i64 0, .int .i64 1, .int .i64 0, .int .i64 (-1), .int .i64 1]) (by simp)).2)
          have h0_r := Lib.hid (fun z => show World.rangeAt _ _ _ _ from ((KH.out.alloc z).drew.box (w1.heap.size, [.int .i64 r.a.re, .int .i64 r.a.im, .int .i64 r.a.den, .int .i64 r.b.re, .int .i64 r.b.im, .int .i64 r.b.den, .int .i64 r.c.re, .int .i64 r.c.im, .int .i64 r.c.den, .int .i64 r.d.re, .int .i64 r.d.im, .int .i64 r.d.den]) (by simp)).2)
          have h0_vone := Lib.hid (fun z => show World.rangeAt _ _ _ _ from ((KH.out.alloc z).drew.box (0, [.int .i64 1, .int .i64 0, .int .i64 1]) (by simp)).2)
          have h0_vzero := Lib.hid (fun z => show World.rangeAt _ _ _ _ from ((KH.out.alloc z).drew.box (1, [.int .i64 0, .int .i64 0, .int .i64 1]) (by simp)).2)
          have h0_vturns := Lib.hid (fun z => show World.rangeAt _ _ _ _ from ((KH.out.alloc z).drew.box (3, [.int .i64 1, .int .i64 0, .int .i64 1, .int .i64 0, .int .i64 1, .int .i64 1, .int .i64 (-1), .int .i64 0, .int .i64 1, .int .i64 0, .int .i64 (-1), .int .i64 1]) (by simp)).2)
          go_region_held3 (fun w' => (w'.cell? ⟨w1.heap.size, 0, none⟩ = some (.int .i64 r.a.re) ∧ w'.cell? ⟨w1.heap.size, 1, none⟩ = some (.int .i64 r.a.im) ∧ w'.cell? ⟨w1.heap.size, 2, none⟩ = some (.int .i64 r.a.den) ∧ w'.cell? ⟨w1.heap.size, 3, none⟩ = some (.int .i64 r.b.re) ∧ w'.cell? ⟨w1.heap.size, 4, none⟩ = some (.int .i64 r.b.im) ∧ w'.cell? ⟨w1.heap.size, 5, none⟩ = some (.int .i64 r.b.den) ∧ w'.cell? ⟨w1.heap.size, 6, none⟩ = some (.int .i64 r.c.re) ∧ w'.cell? ⟨w1.heap.size, 7, none⟩ = some (.int .i64 r.c.im) ∧ w'.cell? ⟨w1.heap.size, 8, none⟩ = some (.int .i64 r.c.den) ∧ w'.cell? ⟨w1.heap.size, 9, none⟩ = some (.int .i64 r.d.re) ∧ w'.cell? ⟨w1.heap.size, 10, none⟩ = some (.int .i64 r.d.im) ∧ w'.cell? ⟨w1.heap.size, 11, none⟩ = some (.int .i64 r.d.den)) ∧ (w'.cell? ⟨0, 0, none⟩ = some (.int .i64 1) ∧ w'.cell? ⟨0, 1, none⟩ = some (.int .i64 0) ∧ w'.cell? ⟨0, 2, none⟩ = some (.int .i64 1)) ∧ (w'.cell? ⟨1, 0, none⟩ = some (.int .i64 0) ∧ w'.cell? ⟨1, 1, none⟩ = some (.int .i64 0) ∧ w'.cell? ⟨1, 2, none⟩ = some (.int .i64 1)) ∧ (w'.cell? ⟨3, 0, none⟩ = some (.int .i64 1) ∧ w'.cell? ⟨3, 1, none⟩ = some (.int .i64 0) ∧ w'.cell? ⟨3, 2, none⟩ = some (.int .i64 1) ∧ w'.cell? ⟨3, 3, none⟩ = some (.int .i64 0) ∧ w'.cell? ⟨3, 4, none⟩ = some (.int .i64 1) ∧ w'.cell? ⟨3, 5, none⟩ = some (.int .i64 1) ∧ w'.cell? ⟨3, 6, none⟩ = some (.int .i64 (-1)) ∧ w'.cell? ⟨3, 7, none⟩ = some (.int .i64 0) ∧ w'.cell? ⟨3, 8, none⟩ = some (.int .i64 1) ∧ w'.cell? ⟨3, 9, none⟩ = some (.int .i64 0) ∧ w'.cell? ⟨3, 10, none⟩ = some (.int .i64 (-1)) ∧ w'.cell? ⟨3, 11, none⟩ = some (.int .i64 1))) (((try dsimp only); (first | (with_reducible exact ⟨cellsM (f0_r.out), cellsF (f0_vone.out), cellsF (f0_vzero.out), cellsM (f0_vturns.out)⟩) | (with_reducible exact ⟨cellsM (h0_r.out _), cellsF (h0_vone.out _), cellsF (h0_vzero.out _), cellsM (h0_vturns.out _)⟩) | (with_reducible exact ⟨cellsM (f1_r.out), cellsF (f1_vone.out), cellsF (f1_vzero.out), cellsM (f1_vturns.out)⟩) | (with_reducible exact ⟨cellsM (World.rangeAt_alloc f1_r.out _), cellsF (World.rangeAt_alloc f1_vone.out _), cellsF (World.rangeAt_alloc f1_vzero.out _), cellsM (World.rangeAt_alloc f1_vturns.out _)⟩) | (with_reducible exact ⟨cellsM (KS_r.out _ (by omega) (by omega) _ _ _ _ _ _ _ _ _ _ _ _), cellsF (KS_vone.out _ (by omega) (by omega) _ _ _ _ _ _ _ _ _ _ _ _), cellsF (KS_vzero.out _ (by omega) (by omega) _ _ _ _ _ _ _ _ _ _ _ _), cellsM (KS_vturns.out _ (by omega) (by omega) _ _ _ _ _ _ _ _ _ _ _ _)⟩)))) (first | (go_at_call 53; (with_reducible refine (imtm_m r ⟨⟨1, 0, 1⟩, ⟨0, 0, 1⟩, ⟨0, 0, 1⟩, ⟨0, -1, 1⟩⟩ _).mono ?_); rintro e wr5_1 ho; rw [HA0.out] at ho; obtain ⟨rfl, hb⟩ : e = .returned (.tuple #[.agg #[.int .i64 A.a.re, .int .i64 A.a.im, .int .i64 A.a.den, .int .i64 A.b.re, .int .i64 A.b.im, .int .i64 A.b.den, .int .i64 A.c.re, .int .i64 A.c.im, .int .i64 A.c.den, .int .i64 A.d.re, .int .i64 A.d.im, .int .i64 A.d.den], .bool u]) ∧ Below _ _ _ := ho.fn; have K1 := Lib.hid (show BX w _ _ [(0, [.int .i64 1, .int .i64 0, .int .i64 1]), (1, [.int .i64 0, .int .i64 0, .int .i64 1]), (3, [.int .i64 1, .int .i64 0, .int .i64 1, .int .i64 0, .int .i64 1, .int .i64 1, .int .i64 (-1), .int .i64 0, .int .i64 1, .int .i64 0, .int .i64 (-1), .int .i64 1]), (w1.heap.size, [.int .i64 r.a.re, .int .i64 r.a.im, .int .i64 r.a.den, .int .i64 r.b.re, .int .i64 r.b.im, .int .i64 r.b.den, .int .i64 r.c.re, .int .i64 r.c.im, .int .i64 r.c.den, .int .i64 r.d.re, .int .i64 r.d.im, .int .i64 r.d.den])] wr5_1 from by first | (with_reducible exact KH.out.drew.next hb) | (with_reducible exact (KH.out.alloc _).drew.next hb)); have f1_r := Lib.hid (show World.rangeAt _ _ _ _ from (K1.out.box (w1.heap.size, [.int .i64 r.a.re, .int .i64 r.a.im, .int .i64 r.a.den, .int .i64 r.b.re, .int .i64 r.b.im, .int .i64 r.b.den, .int .i64 r.c.re, .int .i64 r.c.im, .int .i64 r.c.den, .int .i64 r.d.re, .int .i64 r.d.im, .int .i64 r.d.den]) (by simp)).2); have f1_vone := Lib.hid (show World.rangeAt _ _ _ _ from (K1.out.box (0, [.int .i64 1, .int .i64 0, .int .i64 1]) (by simp)).2); have f1_vzero := Lib.hid (show World.rangeAt _ _ _ _ from (K1.out.box (1, [.int .i64 0, .int .i64 0, .int .i64 1]) (by simp)).2); have f1_vturns := Lib.hid (show World.rangeAt _ _ _ _ from (K1.out.box (3, [.int .i64 1, .int .i64 0, .int .i64 1, .int .i64 0, .int .i64 1, .int .i64 1, .int .i64 (-1), .int .i64 0, .int .i64 1, .int .i64 0, .int .i64 (-1), .int .i64 1]) (by simp)).2); have hzr1 := hb.size; (try simp at hzr1); obtain ⟨BB, hBB, hb⟩ : ∃ B, B = _ ∧ Below B _ _ := ⟨_, rfl, hb⟩; (try simp at hBB); (first | (rcases Nat.lt_or_ge (w1.heap.size + 1) BB with hlt | hlt; rotate_left; (exfalso; omega); have yc := fun q => hb.cell (p := ⟨w1.heap.size + 1, q, none⟩) hlt; have yf := fun q => hb.frozen (p := ⟨w1.heap.size + 1, q, none⟩) hlt; (first | (have RD := Lib.hid (RD.out.below hb hlt)) | (have RD : Hid (Room wr5_1 (w1.heap.size + 1) 4) := (by show Room _ _ _; refine Room.below ?_ hb hlt; first | (with_reducible refine Room.new' ?_ rfl; simp; done) | (with_reducible refine Room.drewF (Room.new' ?_ rfl); simp; done))) | skip); clear hlt) | skip); clear hBB; have KS := Lib.hid (fun (D : Nat) h2 h4 (v0 : Value) (v1 : Value) (v2 : Value) (v3 : Value) (v4 : Value) (v5 : Value) (v6 : Value) (v7 : Value) (v8 : Value) (v9 : Value) (v10 : Value) (v11 : Value) => K1.out.store (D := D) h2 h4 [v0, v1, v2, v3, v4, v5, v6, v7, v8, v9, v10, v11]); have KS := Lib.hid (by have hh := KS.out; simp only [World.setCells, Nat.zero_add, Nat.reduceAdd] at hh; exact hh); have KS_r := Lib.hid (fun (D : Nat) (h2 : w1.heap.size ≠ D) (h4 : w.heap.size ≤ D) (v0 : Value) (v1 : Value) (v2 : Value) (v3 : Value) (v4 : Value) (v5 : Value) (v6 : Value) (v7 : Value) (v8 : Value) (v9 : Value) (v10 : Value) (v11 : Value) => World.rangeAt_setCells_apart (show World.rangeAt wr5_1 (w1.heap.size) 0 [.int .i64 r.a.re, .int .i64 r.a.im, .int .i64 r.a.den, .int .i64 r.b.re, .int .i64 r.b.im, .int .i64 r.b.den, .int .i64 r.c.re, .int .i64 r.c.im, .int .i64 r.c.den, .int .i64 r.d.re, .int .i64 r.d.im, .int .i64 r.d.den] from f1_r.out) D 0 [v0, v1, v2, v3, v4, v5, v6, v7, v8, v9, v10, v11] (Or.inl h2)); have KS_r := Lib.hid (by have hh := KS_r.out; simp only [World.setCells, Nat.zero_add, Nat.reduceAdd] at hh; exact hh); have KS_vone := Lib.hid (fun (D : Nat) (h2 : 0 ≠ D) (h4 : w.heap.size ≤ D) (v0 : Value) (v1 : Value) (v2 : Value) (v3 : Value) (v4 : Value) (v5 : Value) (v6 : Value) (v7 : Value) (v8 : Value) (v9 : Value) (v10 : Value) (v11 : Value) => World.rangeAt_setCells_apart (show World.rangeAt wr5_1 (0) 0 [.int .i64 1, .int .i64 0, .int .i64 1] from f1_vone.out) D 0 [v0, v1, v2, v3, v4, v5, v6, v7, v8, v9, v10, v11] (Or.inl h2)); have KS_vone := Lib.hid (by have hh := KS_vone.out; simp only [World.setCells, Nat.zero_add, Nat.reduceAdd] at hh; exact hh); have KS_vzero := Lib.hid (fun (D : Nat) (h2 : 1 ≠ D) (h4 : w.heap.size ≤ D) (v0 : Value) (v1 : Value) (v2 : Value) (v3 : Value) (v4 : Value) (v5 : Value) (v6 : Value) (v7 : Value) (v8 : Value) (v9 : Value) (v10 : Value) (v11 : Value) => World.rangeAt_setCells_apart (show World.rangeAt wr5_1 (1) 0 [.int .i64 0, .int .i64 0, .int .i64 1] from f1_vzero.out) D 0 [v0, v1, v2, v3, v4, v5, v6, v7, v8, v9, v10, v11] (Or.inl h2)); have KS_vzero := Lib.hid (by have hh := KS_vzero.out; simp only [World.setCells, Nat.zero_add, Nat.reduceAdd] at hh; exact hh); have KS_vturns := Lib.hid (fun (D : Nat) (h2 : 3 ≠ D) (h4 : w.heap.size ≤ D) (v0 : Value) (v1 : Value) (v2 : Value) (v3 : Value) (v4 : Value) (v5 : Value) (v6 : Value) (v7 : Value) (v8 : Value) (v9 : Value) (v10 : Value) (v11 : Value) => World.rangeAt_setCells_apart (show World.rangeAt wr5_1 (3) 0 [.int .i64 1, .int .i64 0, .int .i64 1, .int .i64 0, .int .i64 1, .int .i64 1, .int .i64 (-1), .int .i64 0, .int .i64 1, .int .i64 0, .int .i64 (-1), .int .i64 1] from f1_vturns.out) D 0 [v0, v1, v2, v3, v4, v5, v6, v7, v8, v9, v10, v11] (Or.inl h2)); have KS_vturns := Lib.hid (by have hh := KS_vturns.out; simp only [World.setCells, Nat.zero_add, Nat.reduceAdd] at hh; exact hh); clear ho hb))
          all_goals (go_wp2_with fail; go_meet)
          all_goals (first
              | (refine ⟨w1.heap.size + 1, rfl, rfl, by omega, ?_⟩; have kS := KS.out (w1.heap.size + 1) (by intro e he; simp only [List.mem_cons, List.not_mem_nil, or_false] at he; rcases he with rfl | rfl | rfl | rfl <;> (show _ ≠ _; omega)) (by omega) (.int .i64 A.a.re) (.int .i64 A.a.im) (.int .i64 A.a.den) (.int .i64 A.b.re) (.int .i64 A.b.im) (.int .i64 A.b.den) (.int .i64 A.c.re) (.int .i64 A.c.im) (.int .i64 A.c.den) (.int .i64 A.d.re) (.int .i64 A.d.im) (.int .i64 A.d.den); have hh := fun W h => World.rangeAt_setCells_same W (w1.heap.size + 1) 0 [.int .i64 A.a.re, .int .i64 A.a.im, .int .i64 A.a.den, .int .i64 A.b.re, .int .i64 A.b.im, .int .i64 A.b.den, .int .i64 A.c.re, .int .i64 A.c.im, .int .i64 A.c.den, .int .i64 A.d.re, .int .i64 A.d.im, .int .i64 A.d.den] h; simp only [World.setCells, Nat.zero_add, Nat.reduceAdd] at hh; have hr := hh _ RD.out.there; have hE := RD.out.ltF (by omega); exact kS.add (by simpa using hE) hr)
              | (refine ⟨wr5_1.heap.size, rfl, rfl, by omega, ?_⟩; have kS := K1.out.alloc (.cells #[.int .i64 A.a.re, .int .i64 A.a.im, .int .i64 A.a.den, .int .i64 A.b.re, .int .i64 A.b.im, .int .i64 A.b.den, .int .i64 A.c.re, .int .i64 A.c.im, .int .i64 A.c.den, .int .i64 A.d.re, .int .i64 A.d.im, .int .i64 A.d.den] 41); exact kS.add (by simp) (rangeAt_new _ _ _)))
        case rest =>
        obtain ⟨D5, rfl, rfl, hlo5, KC⟩ := hcut
        obtain ⟨wq5, hwq⟩ : ∃ x, x = wc := ⟨_, rfl⟩
        rw [← hwq] at KC
        rw [← hwq]
        clear hwq
        obtain ⟨hl_aa, hr_aa⟩ := KC.box (D5, [.int .i64 A.a.re, .int .i64 A.a.im, .int .i64 A.a.den, .int .i64 A.b.re, .int .i64 A.b.im, .int .i64 A.b.den, .int .i64 A.c.re, .int .i64 A.c.im, .int .i64 A.c.den, .int .i64 A.d.re, .int .i64 A.d.im, .int .i64 A.d.den]) (by simp)
        have Haa := Lib.hid hr_aa
        clear hr_aa
        obtain ⟨hl_vone, hr_vone⟩ := KC.box (0, [.int .i64 1, .int .i64 0, .int .i64 1]) (by simp)
        have Hvone := Lib.hid hr_vone
        clear hr_vone
        obtain ⟨hl_vzero, hr_vzero⟩ := KC.box (1, [.int .i64 0, .int .i64 0, .int .i64 1]) (by simp)
        have Hvzero := Lib.hid hr_vzero
        clear hr_vzero
        obtain ⟨hl_vturns, hr_vturns⟩ := KC.box (3, [.int .i64 1, .int .i64 0, .int .i64 1, .int .i64 0, .int .i64 1, .int .i64 1, .int .i64 (-1), .int .i64 0, .int .i64 1, .int .i64 0, .int .i64 (-1), .int .i64 1]) (by simp)
        have Hvturns := Lib.hid hr_vturns
        clear hr_vturns
        obtain ⟨hl_r, hr_r⟩ := KC.box (w1.heap.size, [.int .i64 r.a.re, .int .i64 r.a.im, .int .i64 r.a.den, .int .i64 r.b.re, .int .i64 r.b.im, .int .i64 r.b.den, .int .i64 r.c.re, .int .i64 r.c.im, .int .i64 r.c.den, .int .i64 r.d.re, .int .i64 r.d.im, .int .i64 r.d.den]) (by simp)
        have Hr := Lib.hid hr_r
        clear hr_r
        have HB := Lib.hid KC.below
        have HR := Lib.hid KC.room
        have hRl : w.heap.size < wq5.heap.size := by rcases KC.hR with h | h <;> omega
        clear KC KH
        have nA4 : D5 < wq5.heap.size := by first | assumption | omega
        have nB4 : ¬ D5 = wq5.heap.size := by omega
        have nC4 : ¬ wq5.heap.size = D5 := by omega
        have nA0 : 0 < wq5.heap.size := by first | assumption | omega
        have nB0 : ¬ 0 = wq5.heap.size := by omega
        have nC0 : ¬ wq5.heap.size = 0 := by omega
        have nA1 : 1 < wq5.heap.size := by first | assumption | omega
        have nB1 : ¬ 1 = wq5.heap.size := by omega
        have nC1 : ¬ wq5.heap.size = 1 := by omega
        have nA2 : 3 < wq5.heap.size := by first | assumption | omega
        have nB2 : ¬ 3 = wq5.heap.size := by omega
        have nC2 : ¬ wq5.heap.size = 3 := by omega
        have nA5 : w1.heap.size < wq5.heap.size := by first | assumption | omega
        have nB5 : ¬ w1.heap.size = wq5.heap.size := by omega
        have nC5 : ¬ wq5.heap.size = w1.heap.size := by omega
        have nA3 : w.heap.size < wq5.heap.size := by first | assumption | omega
        have nB3 : ¬ w.heap.size = wq5.heap.size := by omega
        have nC3 : ¬ wq5.heap.size = w.heap.size := by omega
        go_wp2_with (first | ((with_reducible refine wpList_load_mid ?kl331 41 ?kl33x ?kl332 (w1.heap.size) 0 ?kl333 [.int .i64 r.a.re, .int .i64 r.a.im, .int .i64 r.a.den, .int .i64 r.b.re, .int .i64 r.b.im, .int .i64 r.b.den, .int .i64 r.c.re, .int .i64 r.c.im, .int .i64 r.c.den, .int .i64 r.d.re, .int .i64 r.d.im, .int .i64 r.d.den] ?kl33d ?kl334 ?kl335 ?kl336 ?kl337 ?kl338); (case kl332 => rfl); (case kl331 => rfl); (case kl333 => rfl); (case kl334 => (exact Hr.out)); (case kl335 => exact Tryd.underlying41); (case kl336 => rfl); (case kl337 => kernel_rfl)))
        refine (imatadj_any r _).mono ?_
        rintro e w3 ho
        rw [HB0.out] at ho
        obtain ⟨rfl, hb⟩ : e = .returned (.tuple #[.agg #[.int .i64 B.a.re, .int .i64 B.a.im, .int .i64 B.a.den, .int .i64 B.b.re, .int .i64 B.b.im, .int .i64 B.b.den, .int .i64 B.c.re, .int .i64 B.c.im, .int .i64 B.c.den, .int .i64 B.d.re, .int .i64 B.d.im, .int .i64 B.d.den], .bool b]) ∧ Below _ _ _ := ho.fn
        clear ho
        have HB := Lib.hid (show Below w.heap.size w w3 from HB.out.trans ((show Below _ _ _ from (Below.refl _ _)).trans (hb.mono (by first | omega | (simp <;> omega)))))
        have Haa : Hid (w3.rangeAt (D5) 0 [.int .i64 A.a.re, .int .i64 A.a.im, .int .i64 A.a.den, .int .i64 A.b.re, .int .i64 A.b.im, .int .i64 A.b.den, .int .i64 A.c.re, .int .i64 A.c.im, .int .i64 A.c.den, .int .i64 A.d.re, .int .i64 A.d.im, .int .i64 A.d.den]) := rangeAt_below Haa.out hb (by first | omega | (simp; done) | (simp <;> omega))
        have Hvone : Hid (w3.rangeAt (0) 0 [.int .i64 1, .int .i64 0, .int .i64 1]) := rangeAt_below Hvone.out hb (by first | omega | (simp; done) | (simp <;> omega))
        have Hvzero : Hid (w3.rangeAt (1) 0 [.int .i64 0, .int .i64 0, .int .i64 1]) := rangeAt_below Hvzero.out hb (by first | omega | (simp; done) | (simp <;> omega))
        have Hvturns : Hid (w3.rangeAt (3) 0 [.int .i64 1, .int .i64 0, .int .i64 1, .int .i64 0, .int .i64 1, .int .i64 1, .int .i64 (-1), .int .i64 0, .int .i64 1, .int .i64 0, .int .i64 (-1), .int .i64 1]) := rangeAt_below Hvturns.out hb (by first | omega | (simp; done) | (simp <;> omega))
        have Hr : Hid (w3.rangeAt (w1.heap.size) 0 [.int .i64 r.a.re, .int .i64 r.a.im, .int .i64 r.a.den, .int .i64 r.b.re, .int .i64 r.b.im, .int .i64 r.b.den, .int .i64 r.c.re, .int .i64 r.c.im, .int .i64 r.c.den, .int .i64 r.d.re, .int .i64 r.d.im, .int .i64 r.d.den]) := rangeAt_below Hr.out hb (by first | omega | (simp; done) | (simp <;> omega))
        have HR := Lib.hid ((show Room _ (w.heap.size) 4 from HR.out).below hb (by first | omega | (simp <;> omega)))
        have hz3 := hb.size
        (try simp at hz3)
        clear hb
        have hne3 : ¬ w3.heap = #[] := fun h => absurd (show 0 < 0 from (by have hh : 0 < w3.heap.size := (by omega); rw [h] at hh; exact hh)) (Nat.not_lt_zero _)
        have nA4 : D5 < w3.heap.size := by omega
        have nB4 : ¬ D5 = w3.heap.size := by omega
        have nC4 : ¬ w3.heap.size = D5 := by omega
        have nA0 : 0 < w3.heap.size := by omega
        have nB0 : ¬ 0 = w3.heap.size := by omega
        have nC0 : ¬ w3.heap.size = 0 := by omega
        have nA1 : 1 < w3.heap.size := by omega
        have nB1 : ¬ 1 = w3.heap.size := by omega
        have nC1 : ¬ w3.heap.size = 1 := by omega
        have nA2 : 3 < w3.heap.size := by omega
        have nB2 : ¬ 3 = w3.heap.size := by omega
        have nC2 : ¬ w3.heap.size = 3 := by omega
        have nA5 : w1.heap.size < w3.heap.size := by omega
        have nB5 : ¬ w1.heap.size = w3.heap.size := by omega
        have nC5 : ¬ w3.heap.size = w1.heap.size := by omega
        have nA3 : w.heap.size < w3.heap.size := by omega
        have nB3 : ¬ w.heap.size = w3.heap.size := by omega
        have nC3 : ¬ w3.heap.size = w.heap.size := by omega
        go_wp2_with (first | ((with_reducible refine wpList_load_mid ?kl341 41 ?kl34x ?kl342 (D5) 0 ?kl343 [.int .i64 A.a.re, .int .i64 A.a.im, .int .i64 A.a.den, .int .i64 A.b.re, .int .i64 A.b.im, .int .i64 A.b.den, .int .i64 A.c.re, .int .i64 A.c.im, .int .i64 A.c.den, .int .i64 A.d.re, .int .i64 A.d.im, .int .i64 A.d.den] ?kl34d ?kl344 ?kl345 ?kl346 ?kl347 ?kl348); (case kl342 => rfl); (case kl341 => rfl); (case kl343 => rfl); (case kl344 => (exact (World.rangeAt_alloc Haa.out _))); (case kl345 => exact Tryd.underlying41); (case kl346 => rfl); (case kl347 => kernel_rfl)) | ((with_reducible refine wpList_load_mid ?kl351 41 ?kl35x ?kl352 (w3.heap.size) 0 ?kl353 [.int .i64 B.a.re, .int .i64 B.a.im, .int .i64 B.a.den, .int .i64 B.b.re, .int .i64 B.b.im, .int .i64 B.b.den, .int .i64 B.c.re, .int .i64 B.c.im, .int .i64 B.c.den, .int .i64 B.d.re, .int .i64 B.d.im, .int .i64 B.d.den] ?kl35d ?kl354 ?kl355 ?kl356 ?kl357 ?kl358); (case kl352 => rfl); (case kl351 => rfl); (case kl353 => rfl); (case kl354 => (exact (rangeAt_new _ _ _))); (case kl355 => exact Tryd.underlying41); (case kl356 => rfl); (case kl357 => kernel_rfl)))
        refine (imtm_m A B _).mono ?_
        rintro e w4 ho
        rw [HC0.out] at ho
        obtain ⟨rfl, hb⟩ : e = .returned (.tuple #[.agg #[.int .i64 C.a.re, .int .i64 C.a.im, .int .i64 C.a.den, .int .i64 C.b.re, .int .i64 C.b.im, .int .i64 C.b.den, .int .i64 C.c.re, .int .i64 C.c.im, .int .i64 C.c.den, .int .i64 C.d.re, .int .i64 C.d.im, .int .i64 C.d.den], .bool v]) ∧ Below _ _ _ := ho.fn
        clear ho
        have HB := Lib.hid (show Below w.heap.size w w4 from HB.out.trans ((show Below _ _ _ from ((Below.refl _ _).alloc (by first | omega | (simp; done) | (simp <;> omega)) _)).trans (hb.mono (by first | omega | (simp <;> omega)))))
        have Haa : Hid (w4.rangeAt (D5) 0 [.int .i64 A.a.re, .int .i64 A.a.im, .int .i64 A.a.den, .int .i64 A.b.re, .int .i64 A.b.im, .int .i64 A.b.den, .int .i64 A.c.re, .int .i64 A.c.im, .int .i64 A.c.den, .int .i64 A.d.re, .int .i64 A.d.im, .int .i64 A.d.den]) := rangeAt_below (World.rangeAt_alloc Haa.out _) hb (by first | omega | (simp; done) | (simp <;> omega))
        have Hvone : Hid (w4.rangeAt (0) 0 [.int .i64 1, .int .i64 0, .int .i64 1]) := rangeAt_below (World.rangeAt_alloc Hvone.out _) hb (by first | omega | (simp; done) | (simp <;> omega))
        have Hvzero : Hid (w4.rangeAt (1) 0 [.int .i64 0, .int .i64 0, .int .i64 1]) := rangeAt_below (World.rangeAt_alloc Hvzero.out _) hb (by first | omega | (simp; done) | (simp <;> omega))
        have Hvturns : Hid (w4.rangeAt (3) 0 [.int .i64 1, .int .i64 0, .int .i64 1, .int .i64 0, .int .i64 1, .int .i64 1, .int .i64 (-1), .int .i64 0, .int .i64 1, .int .i64 0, .int .i64 (-1), .int .i64 1]) := rangeAt_below (World.rangeAt_alloc Hvturns.out _) hb (by first | omega | (simp; done) | (simp <;> omega))
        have Hr : Hid (w4.rangeAt (w1.heap.size) 0 [.int .i64 r.a.re, .int .i64 r.a.im, .int .i64 r.a.den, .int .i64 r.b.re, .int .i64 r.b.im, .int .i64 r.b.den, .int .i64 r.c.re, .int .i64 r.c.im, .int .i64 r.c.den, .int .i64 r.d.re, .int .i64 r.d.im, .int .i64 r.d.den]) := rangeAt_below (World.rangeAt_alloc Hr.out _) hb (by first | omega | (simp; done) | (simp <;> omega))
        have HR := Lib.hid ((show Room _ (w.heap.size) 4 from (HR.out.alloc (by first | omega | (simp; done) | (simp <;> omega)) _)).below hb (by first | omega | (simp <;> omega)))
        have Hbb : Hid (w4.rangeAt (w3.heap.size) 0 [.int .i64 B.a.re, .int .i64 B.a.im, .int .i64 B.a.den, .int .i64 B.b.re, .int .i64 B.b.im, .int .i64 B.b.den, .int .i64 B.c.re, .int .i64 B.c.im, .int .i64 B.c.den, .int .i64 B.d.re, .int .i64 B.d.im, .int .i64 B.d.den]) := rangeAt_below (rangeAt_new _ _ _) hb (by first | omega | (simp; done) | (simp <;> omega))
        have hz4 := hb.size
        (try simp at hz4)
        clear hb
        have hne4 : ¬ w4.heap = #[] := fun h => absurd (show 0 < 0 from (by have hh : 0 < w4.heap.size := (by omega); rw [h] at hh; exact hh)) (Nat.not_lt_zero _)
        have nA4 : D5 < w4.heap.size := by omega
        have nB4 : ¬ D5 = w4.heap.size := by omega
        have nC4 : ¬ w4.heap.size = D5 := by omega
        have nA0 : 0 < w4.heap.size := by omega
        have nB0 : ¬ 0 = w4.heap.size := by omega
        have nC0 : ¬ w4.heap.size = 0 := by omega
        have nA1 : 1 < w4.heap.size := by omega
        have nB1 : ¬ 1 = w4.heap.size := by omega
        have nC1 : ¬ w4.heap.size = 1 := by omega
        have nA2 : 3 < w4.heap.size := by omega
        have nB2 : ¬ 3 = w4.heap.size := by omega
        have nC2 : ¬ w4.heap.size = 3 := by omega
        have nA5 : w1.heap.size < w4.heap.size := by omega
        have nB5 : ¬ w1.heap.size = w4.heap.size := by omega
        have nC5 : ¬ w4.heap.size = w1.heap.size := by omega
        have nA6 : w3.heap.size < w4.heap.size := by omega
        have nB6 : ¬ w3.heap.size = w4.heap.size := by omega
        have nC6 : ¬ w4.heap.size = w3.heap.size := by omega
        have nA3 : w.heap.size < w4.heap.size := by omega
        have nB3 : ¬ w.heap.size = w4.heap.size := by omega
        have nC3 : ¬ w4.heap.size = w.heap.size := by omega
        cases u
        · skip
          have HG : Hid (gPla p q 3 = (m4z, false)) := HGg.out
          clear HGg
          have hth := (show Room (w4.alloc (.cells #[.int .i64 C.a.re, .int .i64 C.a.im, .int .i64 C.a.den, .int .i64 C.b.re, .int .i64 C.b.im, .int .i64 C.b.den, .int .i64 C.c.re, .int .i64 C.c.im, .int .i64 C.c.den, .int .i64 C.d.re, .int .i64 C.d.im, .int .i64 C.d.den] 41)) (w.heap.size) 4 from (HR.out.alloc (by first | omega | (simp; done) | (simp <;> omega)) _)).there
          go_wp2_with (first | ((with_reducible refine wpList_store_mid ?kl361 41 ?kl36x ?kl36y ?kl362 (w.heap.size) 0 #[.int .i64 0, .int .i64 0, .int .i64 0, .int .i64 0, .int .i64 0, .int .i64 0, .int .i64 0, .int .i64 0, .int .i64 0, .int .i64 0, .int .i64 0, .int .i64 0] ?kl363 ?kl364 ?kl365 ?kl366 ?kl367 ?kl368); (case kl362 => rfl); (case kl361 => rfl); (case kl363 => rfl); (case kl364 => rfl); (case kl365 => exact hth); (case kl366 => kernel_rfl); (case kl367 => exact (by simp [Value.oneCell']))))
          refine bodyPost_ret (v := .tuple #[.agg #[.int .i64 0, .int .i64 0, .int .i64 0, .int .i64 0, .int .i64 0, .int .i64 0, .int .i64 0, .int .i64 0, .int .i64 0, .int .i64 0, .int .i64 0, .int .i64 0], .bool false]) ?_ rfl (M4Out.no HG.out ?_)
          · exact Eq.trans (results_cell_mid2 Tryd.results50 _ _ (w.heap.size) [.int .i64 0, .int .i64 0, .int .i64 0, .int .i64 0, .int .i64 0, .int .i64 0, .int .i64 0, .int .i64 0, .int .i64 0, .int .i64 0, .int .i64 0, .int .i64 0] _ (by rfl) (World.rangeAt_setCells_same _ (w.heap.size) 0 [.int .i64 0, .int .i64 0, .int .i64 0, .int .i64 0, .int .i64 0, .int .i64 0, .int .i64 0, .int .i64 0, .int .i64 0, .int .i64 0, .int .i64 0, .int .i64 0] hth) Tryd.underlying41 rfl (by kernel_rfl)) rfl
          · (repeat' first | (with_reducible exact HB.out) | with_reducible refine setCells_below _ _ _ ?_ (by first | omega | (simp <;> omega)) | with_reducible refine Below.setCell ?_ (by show _ ≤ _; first | omega | (simp <;> omega) | simp) _ | with_reducible refine Below.alloc ?_ (by first | omega | (simp <;> omega)) _ | with_reducible apply Below.drew | with_reducible refine below_drewN ?_ _)
        · cases v
          · skip
            have HG : Hid (gPla p q 3 = (m4z, false)) := HGg.out
            clear HGg
            have hth := (show Room (w4.alloc (.cells #[.int .i64 C.a.re, .int .i64 C.a.im, .int .i64 C.a.den, .int .i64 C.b.re, .int .i64 C.b.im, .int .i64 C.b.den, .int .i64 C.c.re, .int .i64 C.c.im, .int .i64 C.c.den, .int .i64 C.d.re, .int .i64 C.d.im, .int .i64 C.d.den] 41)) (w.heap.size) 4 from (HR.out.alloc (by first | omega | (simp; done) | (simp <;> omega)) _)).there
            go_wp2_with (first | ((with_reducible refine wpList_store_mid ?kl371 41 ?kl37x ?kl37y ?kl372 (w.heap.size) 0 #[.int .i64 0, .int .i64 0, .int .i64 0, .int .i64 0, .int .i64 0, .int .i64 0, .int .i64 0, .int .i64 0, .int .i64 0, .int .i64 0, .int .i64 0, .int .i64 0] ?kl373 ?kl374 ?kl375 ?kl376 ?kl377 ?kl378); (case kl372 => rfl); (case kl371 => rfl); (case kl373 => rfl); (case kl374 => rfl); (case kl375 => exact hth); (case kl376 => kernel_rfl); (case kl377 => exact (by simp [Value.oneCell']))))
            refine bodyPost_ret (v := .tuple #[.agg #[.int .i64 0, .int .i64 0, .int .i64 0, .int .i64 0, .int .i64 0, .int .i64 0, .int .i64 0, .int .i64 0, .int .i64 0, .int .i64 0, .int .i64 0, .int .i64 0], .bool false]) ?_ rfl (M4Out.no HG.out ?_)
            · exact Eq.trans (results_cell_mid2 Tryd.results50 _ _ (w.heap.size) [.int .i64 0, .int .i64 0, .int .i64 0, .int .i64 0, .int .i64 0, .int .i64 0, .int .i64 0, .int .i64 0, .int .i64 0, .int .i64 0, .int .i64 0, .int .i64 0] _ (by rfl) (World.rangeAt_setCells_same _ (w.heap.size) 0 [.int .i64 0, .int .i64 0, .int .i64 0, .int .i64 0, .int .i64 0, .int .i64 0, .int .i64 0, .int .i64 0, .int .i64 0, .int .i64 0, .int .i64 0, .int .i64 0] hth) Tryd.underlying41 rfl (by kernel_rfl)) rfl
            · (repeat' first | (with_reducible exact HB.out) | with_reducible refine setCells_below _ _ _ ?_ (by first | omega | (simp <;> omega)) | with_reducible refine Below.setCell ?_ (by show _ ≤ _; first | omega | (simp <;> omega) | simp) _ | with_reducible refine Below.alloc ?_ (by first | omega | (simp <;> omega)) _ | with_reducible apply Below.drew | with_reducible refine below_drewN ?_ _)
          · skip
            have HG : Hid (gPla p q 3 = (C, true)) := HGg.out
            clear HGg
            have hth := (show Room (w4.alloc (.cells #[.int .i64 C.a.re, .int .i64 C.a.im, .int .i64 C.a.den, .int .i64 C.b.re, .int .i64 C.b.im, .int .i64 C.b.den, .int .i64 C.c.re, .int .i64 C.c.im, .int .i64 C.c.den, .int .i64 C.d.re, .int .i64 C.d.im, .int .i64 C.d.den] 41)) (w.heap.size) 4 from (HR.out.alloc (by first | omega | (simp; done) | (simp <;> omega)) _)).there
            go_wp2_with (first | (first | ((with_reducible refine wpList_load_mid ?kl381 41 ?kl38x ?kl382 (w4.heap.size) 0 ?kl383 [.int .i64 C.a.re, .int .i64 C.a.im, .int .i64 C.a.den, .int .i64 C.b.re, .int .i64 C.b.im, .int .i64 C.b.den, .int .i64 C.c.re, .int .i64 C.c.im, .int .i64 C.c.den, .int .i64 C.d.re, .int .i64 C.d.im, .int .i64 C.d.den] ?kl38d ?kl384 ?kl385 ?kl386 ?kl387 ?kl388); (case kl382 => rfl); (case kl381 => rfl); (case kl383 => rfl); (case kl384 => (exact (rangeAt_new _ _ _))); (case kl385 => exact Tryd.underlying41); (case kl386 => rfl); (case kl387 => kernel_rfl))) | ((with_reducible refine wpList_store_mid ?kl391 41 ?kl39x ?kl39y ?kl392 (w.heap.size) 0 #[.int .i64 C.a.re, .int .i64 C.a.im, .int .i64 C.a.den, .int .i64 C.b.re, .int .i64 C.b.im, .int .i64 C.b.den, .int .i64 C.c.re, .int .i64 C.c.im, .int .i64 C.c.den, .int .i64 C.d.re, .int .i64 C.d.im, .int .i64 C.d.den] ?kl393 ?kl394 ?kl395 ?kl396 ?kl397 ?kl398); (case kl392 => rfl); (case kl391 => rfl); (case kl393 => rfl); (case kl394 => rfl); (case kl395 => exact hth); (case kl396 => kernel_rfl); (case kl397 => exact (by simp [Value.oneCell']))))
            refine bodyPost_ret (v := .tuple #[.agg #[.int .i64 C.a.re, .int .i64 C.a.im, .int .i64 C.a.den, .int .i64 C.b.re, .int .i64 C.b.im, .int .i64 C.b.den, .int .i64 C.c.re, .int .i64 C.c.im, .int .i64 C.c.den, .int .i64 C.d.re, .int .i64 C.d.im, .int .i64 C.d.den], .bool true]) ?_ rfl (M4Out.yes (f := C) (by rw [HG.out]) (by rw [HG.out]) ?_)
            · exact Eq.trans (results_cell_mid2 Tryd.results50 _ _ (w.heap.size) [.int .i64 C.a.re, .int .i64 C.a.im, .int .i64 C.a.den, .int .i64 C.b.re, .int .i64 C.b.im, .int .i64 C.b.den, .int .i64 C.c.re, .int .i64 C.c.im, .int .i64 C.c.den, .int .i64 C.d.re, .int .i64 C.d.im, .int .i64 C.d.den] _ (by rfl) (World.rangeAt_setCells_same _ (w.heap.size) 0 [.int .i64 C.a.re, .int .i64 C.a.im, .int .i64 C.a.den, .int .i64 C.b.re, .int .i64 C.b.im, .int .i64 C.b.den, .int .i64 C.c.re, .int .i64 C.c.im, .int .i64 C.c.den, .int .i64 C.d.re, .int .i64 C.d.im, .int .i64 C.d.den] hth) Tryd.underlying41 rfl (by kernel_rfl)) rfl
            · (repeat' first | (with_reducible exact HB.out) | with_reducible refine setCells_below _ _ _ ?_ (by first | omega | (simp <;> omega)) | with_reducible refine Below.setCell ?_ (by show _ ≤ _; first | omega | (simp <;> omega) | simp) _ | with_reducible refine Below.alloc ?_ (by first | omega | (simp <;> omega)) _ | with_reducible apply Below.drew | with_reducible refine below_drewN ?_ _)
end Go.Proofs.YtmcokdiopcpifaaDoor
