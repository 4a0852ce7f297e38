/- Contracts: alike vectors, both sides. -/
import Derived.Test.YtmcokdiopcpifaaDoorPjG29
import Derived.Test.YtmcokdiopcpifaaDoorPjAB
import Derived.Test.YtmcokdiopcpifaaDoorPjG16
import Derived.Test.YtmcokdiopcpifaaDoorPjG19
import Derived.Test.YtmcokdiopcpifaaDoorPjL
import Derived.Test.YtmcokdiopcpifaaDoorPjG8
import Derived.BigQuiet
set_option maxRecDepth 100000
namespace Go.Proofs.YtmcokdiopcpifaaDoor
open Go.RowKit Pol
theorem gJAl_bad1 {a b : J2} (h : (fTimes a.x b.y).2 = false) : gJAl a b = false := by unfold gJAl; rw [h]; simp
theorem gJAl_bad2 {a b : J2} (h : (fTimes a.y b.x).2 = false) : gJAl a b = false := by unfold gJAl; rw [h]; simp
theorem gJAl_jv {a b : J2} (h1 : (fTimes a.x b.y).2 = true) (h2 : (fTimes a.y b.x).2 = true) : jv a = true ∧ jv b = true :=
  ⟨jv_iff.2 ⟨(fTimes_vld h1).1, (fTimes_vld h2).1⟩, jv_iff.2 ⟨(fTimes_vld h2).2.1, (fTimes_vld h1).2.1⟩⟩
theorem frB_frEq (x y : Fr) : frB x y = frEq x y := by rw [Bool.eq_iff_iff, frB_iff, frEq_iff]
theorem gJAl_eq {a b : J2} (h1 : (fTimes a.x b.y).2 = true) (h2 : (fTimes a.y b.x).2 = true) : gJAl a b = (frB (fTimes a.x b.y).1 (fTimes a.y b.x).1 && (dkJ a == dkJ b)) := by
  obtain ⟨h3, h4⟩ := gJAl_jv h1 h2
  unfold gJAl; rw [h1, h2, h3, h4, frB_frEq]; simp
theorem dkJ_frB {a : J2} (h : jv a = true) : dkJ a = (frB a.x f0 && frB a.y f0) := by
  obtain ⟨h1, h2⟩ := jv_iff.1 h
  rw [Bool.eq_iff_iff]
  unfold dkJ
  rw [Bool.and_eq_true, Bool.and_eq_true, dkF_f0 h1, dkF_f0 h2, frB_iff, frB_iff]
set_option maxRecDepth 100000 in
set_option maxHeartbeats 8000000 in
theorem sdk_any (a : J2) (w : World) :
    Calls Tryd.prog 93 #[.agg #[.int .i64 a.x.re, .int .i64 a.x.im, .int .i64 a.x.den, .int .i64 a.y.re, .int .i64 a.y.im, .int .i64 a.y.den]] w (fun e w' => e = .returned (.bool (dkJ a)) ∧ Below w.heap.size w w') := by
  by_cases q0 : a.x.re = 0
  case neg =>
    have b0 : (a.x.re == 0) = false := by simp [q0]
    have HG : Hid (dkJ a = false) := by show _ = _; unfold dkJ dkF; simp [q0]
    clear q0
    have HB : Hid (Below w.heap.size w w) := Below.refl _ _
    go_enter Tryd.func93, Tryd.ntmps93
    go_wp2_with fail
    go_ret
    exact ⟨by rw [HG.out]; rfl, (by (repeat' first | (with_reducible exact HB.out) | with_reducible refine setCells_below _ _ _ ?_ (by first | omega | (simp <;> omega)) | with_reducible refine Below.setCell ?_ (by show _ ≤ _; first | omega | (simp <;> omega) | simp) _ | with_reducible refine Below.alloc ?_ (by first | omega | (simp <;> omega)) _ | with_reducible apply Below.drew | with_reducible refine below_drewN ?_ _))⟩
  have b0 : (a.x.re == 0) = true := by simp [q0]
  by_cases q1 : a.x.im = 0
  case neg =>
    have b1 : (a.x.im == 0) = false := by simp [q1]
    have HG : Hid (dkJ a = false) := by show _ = _; unfold dkJ dkF; simp [q1]
    clear q0 q1
    have HB : Hid (Below w.heap.size w w) := Below.refl _ _
    go_enter Tryd.func93, Tryd.ntmps93
    go_wp2_with fail
    go_ret
    exact ⟨by rw [HG.out]; rfl, (by (repeat' first | (with_reducible exact HB.out) | with_reducible refine setCells_below _ _ _ ?_ (by first | omega | (simp <;> omega)) | with_reducible refine Below.setCell ?_ (by show _ ≤ _; first | omega | (simp <;> omega) | simp) _ | with_reducible refine Below.alloc ?_ (by first | omega | (simp <;> omega)) _ | with_reducible apply Below.drew | with_reducible refine below_drewN ?_ _))⟩
  have b1 : (a.x.im == 0) = true := by simp [q1]
  by_cases q2 : a.y.re = 0
  case neg =>
    have b2 : (a.y.re == 0) = false := by simp [q2]
    have HG : Hid (dkJ a = false) := by show _ = _; unfold dkJ dkF; simp [q2]
    clear q0 q1 q2
    have HB : Hid (Below w.heap.size w w) := Below.refl _ _
    go_enter Tryd.func93, Tryd.ntmps93
    go_wp2_with fail
    go_ret
    exact ⟨by rw [HG.out]; rfl, (by (repeat' first | (with_reducible exact HB.out) | with_reducible refine setCells_below _ _ _ ?_ (by first | omega | (simp <;> omega)) | with_reducible refine Below.setCell ?_ (by show _ ≤ _; first | omega | (simp <;> omega) | simp) _ | with_reducible refine Below.alloc ?_ (by first | omega | (simp <;> omega)) _ | with_reducible apply Below.drew | with_reducible refine below_drewN ?_ _))⟩
  have b2 : (a.y.re == 0) = true := by simp [q2]
  by_cases q3 : a.y.im = 0
  case neg =>
    have b3 : (a.y.im == 0) = false := by simp [q3]
    have HG : Hid (dkJ a = false) := by show _ = _; unfold dkJ dkF; simp [q3]
    clear q0 q1 q2 q3
    have HB : Hid (Below w.heap.size w w) := Below.refl _ _
    go_enter Tryd.func93, Tryd.ntmps93
    go_wp2_with fail
    go_ret
    exact ⟨by rw [HG.out]; rfl, (by (repeat' first | (with_reducible exact HB.out) | with_reducible refine setCells_below _ _ _ ?_ (by first | omega | (simp <;> omega)) | with_reducible refine Below.setCell ?_ (by show _ ≤ _; first | omega | (simp <;> omega) | simp) _ | with_reducible refine Below.alloc ?_ (by first | omega | (simp <;> omega)) _ | with_reducible apply Below.drew | with_reducible refine below_drewN ?_ _))⟩
  have b3 : (a.y.im == 0) = true := by simp [q3]
  have HG : Hid (dkJ a = true) := by show _ = _; unfold dkJ dkF; rw [decide_eq_true q0, decide_eq_true q1, decide_eq_true q2, decide_eq_true q3]; rfl
  clear q0 q1 q2 q3
  have HB : Hid (Below w.heap.size w w) := Below.refl _ _
  go_enter Tryd.func93, Tryd.ntmps93
  go_wp2_with fail
  go_ret
  exact ⟨by rw [HG.out]; rfl, (by (repeat' first | (with_reducible exact HB.out) | with_reducible refine setCells_below _ _ _ ?_ (by first | omega | (simp <;> omega)) | with_reducible refine Below.setCell ?_ (by show _ ≤ _; first | omega | (simp <;> omega) | simp) _ | with_reducible refine Below.alloc ?_ (by first | omega | (simp <;> omega)) _ | with_reducible apply Below.drew | with_reducible refine below_drewN ?_ _))⟩
set_option maxRecDepth 100000 in
set_option maxHeartbeats 8000000 in
theorem idk_any (a : J2) (w : World) (hg_zero : Gat w 1 (ixF f0) 1) :
    Calls Tryd.prog 90 #[.agg #[.int .i64 a.x.re, .int .i64 a.x.im, .int .i64 a.x.den, .int .i64 a.y.re, .int .i64 a.y.im, .int .i64 a.y.den]] w (fun e w' => e = .returned (.bool (frB a.x f0 && frB a.y f0)) ∧ Below w.heap.size w w') := by
  have hEx : ∀ w, (Op.equalIn 10000 23 (.agg #[.int .i64 a.x.re, .int .i64 a.x.im, .int .i64 a.x.den]) (.agg #[.int .i64 0, .int .i64 0, .int .i64 1])).run Tryd.prog w = .ok (frB a.x f0) w := eqFr_run a.x f0 9998
  have hEy : ∀ w, (Op.equalIn 10000 23 (.agg #[.int .i64 a.y.re, .int .i64 a.y.im, .int .i64 a.y.den]) (.agg #[.int .i64 0, .int .i64 0, .int .i64 1])).run Tryd.prog w = .ok (frB a.y f0) w := eqFr_run a.y f0 9998
  obtain ⟨z0, z1, z2⟩ : w.cell? ⟨1, 0, none⟩ = some (.int .i64 0) ∧ w.cell? ⟨1, 1, none⟩ = some (.int .i64 0) ∧ w.cell? ⟨1, 2, none⟩ = some (.int .i64 1) := hg_zero.box 0 (by omega)
  have hlz := hg_zero.lt
  have n0 : ¬ 1 = w.heap.size := by omega
  have n1 : ¬ w.heap.size = 1 := by omega
  have n2 : ¬ w.heap = #[] := fun h => absurd (show (0 : Nat) < 0 from (by have hh : 0 < w.heap.size := (by omega); rw [h] at hh; exact hh)) (Nat.not_lt_zero _)
  cases hx : frB a.x f0
  · skip
    rw [hx] at hEx
    clear hx hEy
    have HB : Hid (Below w.heap.size w w) := Below.refl _ _
    have hlt_zero := hg_zero.lt
    have Hvzero : Hid (w.rangeAt 1 0 [.int .i64 0, .int .i64 0, .int .i64 1]) := by show World.rangeAt _ _ _ _; exact rangeOf1 hg_zero.box
    have HG_zero := Lib.hid hg_zero; clear hg_zero
    go_enter Tryd.func90, Tryd.ntmps90
    go_wp2_with fail
    go_ret
    exact ⟨rfl, (by (repeat' first | (with_reducible exact HB.out) | with_reducible refine setCells_below _ _ _ ?_ (by first | omega | (simp <;> omega)) | with_reducible refine Below.setCell ?_ (by show _ ≤ _; first | omega | (simp <;> omega) | simp) _ | with_reducible refine Below.alloc ?_ (by first | omega | (simp <;> omega)) _ | with_reducible apply Below.drew | with_reducible refine below_drewN ?_ _))⟩
  · skip
    rw [hx] at hEx
    clear hx
    have HB : Hid (Below w.heap.size w w) := Below.refl _ _
    have hlt_zero := hg_zero.lt
    have Hvzero : Hid (w.rangeAt 1 0 [.int .i64 0, .int .i64 0, .int .i64 1]) := by show World.rangeAt _ _ _ _; exact rangeOf1 hg_zero.box
    have HG_zero := Lib.hid hg_zero; clear hg_zero
    go_enter Tryd.func90, Tryd.ntmps90
    go_wp2_with fail
    go_ret
    exact ⟨rfl, (by (repeat' first | (with_reducible exact HB.out) | with_reducible refine setCells_below _ _ _ ?_ (by first | omega | (simp <;> omega)) | with_reducible refine Below.setCell ?_ (by show _ ≤ _; first | omega | (simp <;> omega) | simp) _ | with_reducible refine Below.alloc ?_ (by first | omega | (simp <;> omega)) _ | with_reducible apply Below.drew | with_reducible refine below_drewN ?_ _))⟩
set_option maxRecDepth 100000 in
set_option maxHeartbeats 16000000 in
theorem sjal_any (a : J2) (b : J2) (w : World) :
    Calls Tryd.prog 36 #[.agg #[.int .i64 a.x.re, .int .i64 a.x.im, .int .i64 a.x.den, .int .i64 a.y.re, .int .i64 a.y.im, .int .i64 a.y.den], .agg #[.int .i64 b.x.re, .int .i64 b.x.im, .int .i64 b.x.den, .int .i64 b.y.re, .int .i64 b.y.im, .int .i64 b.y.den]] w (fun e w' => e = .returned (.bool (gJAl a b)) ∧ Below w.heap.size w w') := by
  obtain ⟨p, c1, hp⟩ : ∃ p c, fTimes a.x b.y = (p, c) := ⟨_, _, rfl⟩
  obtain ⟨q, c2, hq⟩ : ∃ q c, fTimes a.y b.x = (q, c) := ⟨_, _, rfl⟩
  have HP := Lib.hid hp
  have HQ := Lib.hid hq
  cases c1
  · skip
    have HG : Hid (gJAl a b = false) := gJAl_bad1 (by rw [hp])
    clear hp hq
    have HB : Hid (Below w.heap.size w w) := Below.refl _ _
    go_enter Tryd.func36, Tryd.ntmps36
    go_wp2_with fail
    refine (sptimes_fr a.x b.y _).mono ?_
    rintro e w1 ho
    rw [HP.out] at ho
    obtain ⟨rfl, hb⟩ : e = .returned (.tuple #[.agg #[.int .i64 p.re, .int .i64 p.im, .int .i64 p.den], .bool false]) ∧ Below _ _ _ := ho.fn
    clear ho
    have HB := Lib.hid (show Below w.heap.size w w1 from HB.out.trans ((show Below _ _ _ from (((Below.refl _ _).alloc (by first | omega | (simp; done) | (simp <;> omega)) _).alloc (by first | omega | (simp; done) | (simp <;> omega)) _)).trans (hb.mono (by first | omega | (simp <;> omega)))))
    have Ha : Hid (w1.rangeAt (w.heap.size) 0 [.int .i64 a.x.re, .int .i64 a.x.im, .int .i64 a.x.den, .int .i64 a.y.re, .int .i64 a.y.im, .int .i64 a.y.den]) := rangeAt_below (World.rangeAt_alloc (rangeAt_new _ _ _) _) hb (by first | omega | (simp; done) | (simp <;> omega))
    have Hb : Hid (w1.rangeAt (w.heap.size + 1) 0 [.int .i64 b.x.re, .int .i64 b.x.im, .int .i64 b.x.den, .int .i64 b.y.re, .int .i64 b.y.im, .int .i64 b.y.den]) := rangeAt_below (rangeAt_nw (by simp)) hb (by first | omega | (simp; done) | (simp <;> omega))
    have hz1 := hb.size
    (try simp at hz1)
    clear hb
    have nA0 : w.heap.size < w1.heap.size := by omega
    have nB0 : ¬ w.heap.size = w1.heap.size := by omega
    have nC0 : ¬ w1.heap.size = w.heap.size := by omega
    have nA1 : w.heap.size + 1 < w1.heap.size := by omega
    have nB1 : ¬ w.heap.size + 1 = w1.heap.size := by omega
    have nC1 : ¬ w1.heap.size = w.heap.size + 1 := by omega
    have za_0 : w1.cell? ⟨w.heap.size, 0, none⟩ = some (.int .i64 a.x.re) := by have := Ha.out 0 _ rfl; rwa [Nat.zero_add] at this
    have za_1 : w1.cell? ⟨w.heap.size, 1, none⟩ = some (.int .i64 a.x.im) := by have := Ha.out 1 _ rfl; rwa [Nat.zero_add] at this
    have za_2 : w1.cell? ⟨w.heap.size, 2, none⟩ = some (.int .i64 a.x.den) := by have := Ha.out 2 _ rfl; rwa [Nat.zero_add] at this
    have za_3 : w1.cell? ⟨w.heap.size, 3, none⟩ = some (.int .i64 a.y.re) := by have := Ha.out 3 _ rfl; rwa [Nat.zero_add] at this
    have za_4 : w1.cell? ⟨w.heap.size, 4, none⟩ = some (.int .i64 a.y.im) := by have := Ha.out 4 _ rfl; rwa [Nat.zero_add] at this
    have za_5 : w1.cell? ⟨w.heap.size, 5, none⟩ = some (.int .i64 a.y.den) := by have := Ha.out 5 _ rfl; rwa [Nat.zero_add] at this
    have zb_0 : w1.cell? ⟨w.heap.size + 1, 0, none⟩ = some (.int .i64 b.x.re) := by have := Hb.out 0 _ rfl; rwa [Nat.zero_add] at this
    have zb_1 : w1.cell? ⟨w.heap.size + 1, 1, none⟩ = some (.int .i64 b.x.im) := by have := Hb.out 1 _ rfl; rwa [Nat.zero_add] at this
    have zb_2 : w1.cell? ⟨w.heap.size + 1, 2, none⟩ = some (.int .i64 b.x.den) := by have := Hb.out 2 _ rfl; rwa [Nat.zero_add] at this
    have zb_3 : w1.cell? ⟨w.heap.size + 1, 3, none⟩ = some (.int .i64 b.y.re) := by have := Hb.out 3 _ rfl; rwa [Nat.zero_add] at this
    have zb_4 : w1.cell? ⟨w.heap.size + 1, 4, none⟩ = some (.int .i64 b.y.im) := by have := Hb.out 4 _ rfl; rwa [Nat.zero_add] at this
    have zb_5 : w1.cell? ⟨w.heap.size + 1, 5, none⟩ = some (.int .i64 b.y.den) := by have := Hb.out 5 _ rfl; rwa [Nat.zero_add] at this
    go_wp2_with fail
    refine (sptimes_fr a.y b.x _).mono ?_
    rintro e w2 ho
    rw [HQ.out] at ho
    obtain ⟨rfl, hb⟩ : e = .returned (.tuple #[.agg #[.int .i64 q.re, .int .i64 q.im, .int .i64 q.den], .bool c2]) ∧ Below _ _ _ := ho.fn
    clear ho
    have HB := Lib.hid (show Below w.heap.size w w2 from HB.out.trans ((show Below _ _ _ from ((Below.refl _ _).alloc (by first | omega | (simp; done) | (simp <;> omega)) _)).trans (hb.mono (by first | omega | (simp <;> omega)))))
    have Ha : Hid (w2.rangeAt (w.heap.size) 0 [.int .i64 a.x.re, .int .i64 a.x.im, .int .i64 a.x.den, .int .i64 a.y.re, .int .i64 a.y.im, .int .i64 a.y.den]) := rangeAt_below (World.rangeAt_alloc Ha.out _) hb (by first | omega | (simp; done) | (simp <;> omega))
    have Hb : Hid (w2.rangeAt (w.heap.size + 1) 0 [.int .i64 b.x.re, .int .i64 b.x.im, .int .i64 b.x.den, .int .i64 b.y.re, .int .i64 b.y.im, .int .i64 b.y.den]) := rangeAt_below (World.rangeAt_alloc Hb.out _) hb (by first | omega | (simp; done) | (simp <;> omega))
    have Hbp : Hid (w2.rangeAt (w1.heap.size) 0 [.int .i64 p.re, .int .i64 p.im, .int .i64 p.den]) := rangeAt_below (rangeAt_new _ _ _) hb (by first | omega | (simp; done) | (simp <;> omega))
    have hz2 := hb.size
    (try simp at hz2)
    clear hb
    have nA0 : w.heap.size < w2.heap.size := by omega
    have nB0 : ¬ w.heap.size = w2.heap.size := by omega
    have nC0 : ¬ w2.heap.size = w.heap.size := by omega
    have nA1 : w.heap.size + 1 < w2.heap.size := by omega
    have nB1 : ¬ w.heap.size + 1 = w2.heap.size := by omega
    have nC1 : ¬ w2.heap.size = w.heap.size + 1 := by omega
    have nA2 : w1.heap.size < w2.heap.size := by omega
    have nB2 : ¬ w1.heap.size = w2.heap.size := by omega
    have nC2 : ¬ w2.heap.size = w1.heap.size := by omega
    go_wp2_with fail
    refine wp_region_held_drew (S := (fun w' => True)) (by kernel_rfl) (show _ from trivial) (fun hHeld => ?_)
    refine wpAnyH_take (i := 0) (v := ?_) rfl (by kernel_rfl) (by kernel_rfl) (by kernel_rfl) (fun _ _ _ h => h) (Or.inl ⟨by rfl, ?_⟩) (by assumption) ?_
    rotate_left
    (focus (intro w hSw; (try dsimp only at hSw); go_simp; (try with_reducible rfl)))
    (try simp only [Act.put, List.getElem_toArray, List.getElem_cons_zero, List.setIfInBounds_toArray, List.set_cons_zero, List.set_cons_succ])
    refine wpAnyH_take (i := 1) (v := ?_) rfl (by kernel_rfl) (by kernel_rfl) (by kernel_rfl) (fun _ _ _ h => h) (Or.inl ⟨by rfl, ?_⟩) (by assumption) ?_
    rotate_left
    (focus (intro w hSw; (try dsimp only at hSw); go_simp; (try with_reducible rfl)))
    (try simp only [Act.put, List.getElem_toArray, List.getElem_cons_succ, List.getElem_cons_zero, List.setIfInBounds_toArray, List.set_cons_zero, List.set_cons_succ])
    refine wpAnyH_take (i := 2) rfl (by kernel_rfl) (by kernel_rfl) (by kernel_rfl) (fun _ _ _ h => h) (Or.inr ⟨by rfl, rfl⟩) (by assumption) ?_
    (try simp only [Act.put, List.getElem_toArray, List.getElem_cons_succ, List.getElem_cons_zero, List.setIfInBounds_toArray, List.set_cons_zero, List.set_cons_succ])
    refine wpAnyH_take (i := 3) (v := ?_) rfl (by kernel_rfl) (by kernel_rfl) (by kernel_rfl) (fun _ _ _ h => h) (Or.inl ⟨by rfl, ?_⟩) (by assumption) ?_
    rotate_left
    (focus (intro w hSw; (try dsimp only at hSw); go_simp; (try with_reducible rfl)))
    (try simp only [Act.put, List.getElem_toArray, List.getElem_cons_succ, List.getElem_cons_zero, List.setIfInBounds_toArray, List.set_cons_zero, List.set_cons_succ])
    refine wpAnyH_take (i := 4) (v := ?_) rfl (by kernel_rfl) (by kernel_rfl) (by kernel_rfl) (fun _ _ _ h => h) (Or.inl ⟨by rfl, ?_⟩) (by assumption) ?_
    rotate_left
    (focus (intro w hSw; (try dsimp only at hSw); go_simp; (try with_reducible rfl)))
    (try simp only [Act.put, List.getElem_toArray, List.getElem_cons_succ, List.getElem_cons_zero, List.setIfInBounds_toArray, List.set_cons_zero, List.set_cons_succ])
    refine wpAnyH_take (i := 5) rfl (by kernel_rfl) (by kernel_rfl) (by kernel_rfl) (fun _ _ _ h => h) (Or.inr ⟨by rfl, rfl⟩) (by assumption) ?_
    (try simp only [Act.put, List.getElem_toArray, List.getElem_cons_succ, List.getElem_cons_zero, List.setIfInBounds_toArray, List.set_cons_zero, List.set_cons_succ])
    refine wpAnyH_take (i := 6) rfl (by kernel_rfl) (by kernel_rfl) (by kernel_rfl) (fun _ _ _ h => h) (Or.inr ⟨by rfl, rfl⟩) (by assumption) ?_
    (try simp only [Act.put, List.getElem_toArray, List.getElem_cons_succ, List.getElem_cons_zero, List.setIfInBounds_toArray, List.set_cons_zero, List.set_cons_succ])
    refine wpAnyH_take (i := 7) (v := ?_) rfl (by kernel_rfl) (by kernel_rfl) (by kernel_rfl) (fun _ _ _ h => h) (Or.inl ⟨by rfl, ?_⟩) (by assumption) ?_
    rotate_left
    (focus (intro w hSw; (try dsimp only at hSw); go_simp; (try with_reducible rfl)))
    (try simp only [Act.put, List.getElem_toArray, List.getElem_cons_succ, List.getElem_cons_zero, List.setIfInBounds_toArray, List.set_cons_zero, List.set_cons_succ])
    refine wpAnyH_take (i := 8) (v := ?_) rfl (by kernel_rfl) (by kernel_rfl) (by kernel_rfl) (fun _ _ _ h => h) (Or.inl ⟨by rfl, ?_⟩) (by assumption) ?_
    rotate_left
    (focus (intro w hSw; (try dsimp only at hSw); go_simp; (try with_reducible rfl)))
    (try simp only [Act.put, List.getElem_toArray, List.getElem_cons_succ, List.getElem_cons_zero, List.setIfInBounds_toArray, List.set_cons_zero, List.set_cons_succ])
    refine wpAnyH_take (i := 9) rfl (by kernel_rfl) (by kernel_rfl) (by kernel_rfl) (fun _ _ _ h => h) (Or.inr ⟨by rfl, rfl⟩) (by assumption) ?_
    (try simp only [Act.put, List.getElem_toArray, List.getElem_cons_succ, List.getElem_cons_zero, List.setIfInBounds_toArray, List.set_cons_zero, List.set_cons_succ])
    refine wpAnyH_take (i := 10) rfl (by kernel_rfl) (by kernel_rfl) (by kernel_rfl) (fun _ _ _ h => h) (Or.inr ⟨by rfl, rfl⟩) (by assumption) ?_
    (try simp only [Act.put, List.getElem_toArray, List.getElem_cons_succ, List.getElem_cons_zero, List.setIfInBounds_toArray, List.set_cons_zero, List.set_cons_succ])
    refine wpAnyH_take (i := 11) (v := ?_) rfl (by kernel_rfl) (by kernel_rfl) (by kernel_rfl) (fun _ _ _ h => h) (Or.inl ⟨by rfl, ?_⟩) (by assumption) ?_
    rotate_left
    (focus (intro w hSw; (try dsimp only at hSw); go_simp; (try with_reducible rfl)))
    (try simp only [Act.put, List.getElem_toArray, List.getElem_cons_succ, List.getElem_cons_zero, List.setIfInBounds_toArray, List.set_cons_zero, List.set_cons_succ])
    refine wpAnyH_take (i := 12) (v := ?_) rfl (by kernel_rfl) (by kernel_rfl) (by kernel_rfl) (fun _ _ _ h => h) (Or.inl ⟨by rfl, ?_⟩) (by assumption) ?_
    rotate_left
    (focus (intro w hSw; (try dsimp only at hSw); go_simp; (try with_reducible rfl)))
    (try simp only [Act.put, List.getElem_toArray, List.getElem_cons_succ, List.getElem_cons_zero, List.setIfInBounds_toArray, List.set_cons_zero, List.set_cons_succ])
    refine wpAnyH_take (i := 13) rfl (by kernel_rfl) (by kernel_rfl) (by kernel_rfl) (fun _ _ _ h => h) (Or.inr ⟨by rfl, rfl⟩) (by assumption) ?_
    (try simp only [Act.put, List.getElem_toArray, List.getElem_cons_succ, List.getElem_cons_zero, List.setIfInBounds_toArray, List.set_cons_zero, List.set_cons_succ])
    refine wpAnyH_take (i := 14) rfl (by kernel_rfl) (by kernel_rfl) (by kernel_rfl) (fun _ _ _ h => h) (Or.inr ⟨by rfl, rfl⟩) (by assumption) ?_
    (try simp only [Act.put, List.getElem_toArray, List.getElem_cons_succ, List.getElem_cons_zero, List.setIfInBounds_toArray, List.set_cons_zero, List.set_cons_succ])
    refine wpAnyH_take (i := 15) rfl (by kernel_rfl) (by kernel_rfl) (by kernel_rfl) (fun _ _ _ h => h) (Or.inr ⟨by rfl, rfl⟩) (by assumption) ?_
    (try simp only [Act.put, List.getElem_toArray, List.getElem_cons_succ, List.getElem_cons_zero, List.setIfInBounds_toArray, List.set_cons_zero, List.set_cons_succ])
    refine wpAnyH_take (i := 16) (v := ?_) rfl (by kernel_rfl) (by kernel_rfl) (by kernel_rfl) (fun _ _ _ h => h) (Or.inl ⟨by rfl, ?_⟩) (by assumption) ?_
    rotate_left
    (focus (intro w hSw; (try dsimp only at hSw); go_simp; (try with_reducible rfl)))
    (try simp only [Act.put, List.getElem_toArray, List.getElem_cons_succ, List.getElem_cons_zero, List.setIfInBounds_toArray, List.set_cons_zero, List.set_cons_succ])
    refine wpAnyH_take (i := 17) (v := ?_) rfl (by kernel_rfl) (by kernel_rfl) (by kernel_rfl) (fun _ _ _ h => h) (Or.inl ⟨by rfl, ?_⟩) (by assumption) ?_
    rotate_left
    (focus (intro w hSw; (try dsimp only at hSw); go_simp; (try with_reducible rfl)))
    (try simp only [Act.put, List.getElem_toArray, List.getElem_cons_succ, List.getElem_cons_zero, List.setIfInBounds_toArray, List.set_cons_zero, List.set_cons_succ])
    refine wpAnyH_take (i := 18) rfl (by kernel_rfl) (by kernel_rfl) (by kernel_rfl) (fun _ _ _ h => h) (Or.inr ⟨by rfl, rfl⟩) (by assumption) ?_
    (try simp only [Act.put, List.getElem_toArray, List.getElem_cons_succ, List.getElem_cons_zero, List.setIfInBounds_toArray, List.set_cons_zero, List.set_cons_succ])
    refine wpAnyH_take (i := 19) rfl (by kernel_rfl) (by kernel_rfl) (by kernel_rfl) (fun _ _ _ h => h) (Or.inr ⟨by rfl, rfl⟩) (by assumption) ?_
    (try simp only [Act.put, List.getElem_toArray, List.getElem_cons_succ, List.getElem_cons_zero, List.setIfInBounds_toArray, List.set_cons_zero, List.set_cons_succ])
    refine wpAnyH_take (i := 20) rfl (by kernel_rfl) (by kernel_rfl) (by kernel_rfl) (fun _ _ _ h => h) (Or.inr ⟨by rfl, rfl⟩) (by assumption) ?_
    (try simp only [Act.put, List.getElem_toArray, List.getElem_cons_succ, List.getElem_cons_zero, List.setIfInBounds_toArray, List.set_cons_zero, List.set_cons_succ])
    refine wpAnyH_take (i := 21) rfl (by kernel_rfl) (by kernel_rfl) (by kernel_rfl) (fun _ _ _ h => h) (Or.inr ⟨by rfl, rfl⟩) (by assumption) ?_
    (try simp only [Act.put, List.getElem_toArray, List.getElem_cons_succ, List.getElem_cons_zero, List.setIfInBounds_toArray, List.set_cons_zero, List.set_cons_succ])
    refine wpAnyH_take (i := 22) rfl (by kernel_rfl) (by kernel_rfl) (by kernel_rfl) (fun _ _ _ h => h) (Or.inr ⟨by rfl, rfl⟩) (by assumption) ?_
    (try simp only [Act.put, List.getElem_toArray, List.getElem_cons_succ, List.getElem_cons_zero, List.setIfInBounds_toArray, List.set_cons_zero, List.set_cons_succ])
    refine wpAnyH_take (i := 23) (v := ?_) rfl (by kernel_rfl) (by kernel_rfl) (by kernel_rfl) (fun _ _ _ h => h) (Or.inl ⟨by rfl, ?_⟩) (by assumption) ?_
    rotate_left
    (focus (intro w hSw; (try dsimp only at hSw); go_simp; (try with_reducible rfl)))
    (try simp only [Act.put, List.getElem_toArray, List.getElem_cons_succ, List.getElem_cons_zero, List.setIfInBounds_toArray, List.set_cons_zero, List.set_cons_succ])
    refine wpAnyH_take (i := 24) (v := ?_) rfl (by kernel_rfl) (by kernel_rfl) (by kernel_rfl) (fun _ _ _ h => h) (Or.inl ⟨by rfl, ?_⟩) (by assumption) ?_
    rotate_left
    (focus (intro w hSw; (try dsimp only at hSw); go_simp; (try with_reducible rfl)))
    (try simp only [Act.put, List.getElem_toArray, List.getElem_cons_succ, List.getElem_cons_zero, List.setIfInBounds_toArray, List.set_cons_zero, List.set_cons_succ])
    refine wpAnyH_done (by kernel_rfl) ?_ _
    clear hHeld
    go_wp2_with fail
    go_ret
    exact ⟨by rw [HG.out]; rfl, (by (repeat' first | (with_reducible exact HB.out) | with_reducible refine setCells_below _ _ _ ?_ (by first | omega | (simp <;> omega)) | with_reducible refine Below.setCell ?_ (by show _ ≤ _; first | omega | (simp <;> omega) | simp) _ | with_reducible refine Below.alloc ?_ (by first | omega | (simp <;> omega)) _ | with_reducible apply Below.drew | with_reducible refine below_drewN ?_ _))⟩
  · skip
    cases c2
    · skip
      have HG : Hid (gJAl a b = false) := gJAl_bad2 (by rw [hq])
      clear hp hq
      have HB : Hid (Below w.heap.size w w) := Below.refl _ _
      go_enter Tryd.func36, Tryd.ntmps36
      go_wp2_with fail
      refine (sptimes_fr a.x b.y _).mono ?_
      rintro e w1 ho
      rw [HP.out] at ho
      obtain ⟨rfl, hb⟩ : e = .returned (.tuple #[.agg #[.int .i64 p.re, .int .i64 p.im, .int .i64 p.den], .bool true]) ∧ Below _ _ _ := ho.fn
      clear ho
      have HB := Lib.hid (show Below w.heap.size w w1 from HB.out.trans ((show Below _ _ _ from (((Below.refl _ _).alloc (by first | omega | (simp; done) | (simp <;> omega)) _).alloc (by first | omega | (simp; done) | (simp <;> omega)) _)).trans (hb.mono (by first | omega | (simp <;> omega)))))
      have Ha : Hid (w1.rangeAt (w.heap.size) 0 [.int .i64 a.x.re, .int .i64 a.x.im, .int .i64 a.x.den, .int .i64 a.y.re, .int .i64 a.y.im, .int .i64 a.y.den]) := rangeAt_below (World.rangeAt_alloc (rangeAt_new _ _ _) _) hb (by first | omega | (simp; done) | (simp <;> omega))
      have Hb : Hid (w1.rangeAt (w.heap.size + 1) 0 [.int .i64 b.x.re, .int .i64 b.x.im, .int .i64 b.x.den, .int .i64 b.y.re, .int .i64 b.y.im, .int .i64 b.y.den]) := rangeAt_below (rangeAt_nw (by simp)) hb (by first | omega | (simp; done) | (simp <;> omega))
      have hz1 := hb.size
      (try simp at hz1)
      clear hb
      have nA0 : w.heap.size < w1.heap.size := by omega
      have nB0 : ¬ w.heap.size = w1.heap.size := by omega
      have nC0 : ¬ w1.heap.size = w.heap.size := by omega
      have nA1 : w.heap.size + 1 < w1.heap.size := by omega
      have nB1 : ¬ w.heap.size + 1 = w1.heap.size := by omega
      have nC1 : ¬ w1.heap.size = w.heap.size + 1 := by omega
      have za_0 : w1.cell? ⟨w.heap.size, 0, none⟩ = some (.int .i64 a.x.re) := by have := Ha.out 0 _ rfl; rwa [Nat.zero_add] at this
      have za_1 : w1.cell? ⟨w.heap.size, 1, none⟩ = some (.int .i64 a.x.im) := by have := Ha.out 1 _ rfl; rwa [Nat.zero_add] at this
      have za_2 : w1.cell? ⟨w.heap.size, 2, none⟩ = some (.int .i64 a.x.den) := by have := Ha.out 2 _ rfl; rwa [Nat.zero_add] at this
      have za_3 : w1.cell? ⟨w.heap.size, 3, none⟩ = some (.int .i64 a.y.re) := by have := Ha.out 3 _ rfl; rwa [Nat.zero_add] at this
      have za_4 : w1.cell? ⟨w.heap.size, 4, none⟩ = some (.int .i64 a.y.im) := by have := Ha.out 4 _ rfl; rwa [Nat.zero_add] at this
      have za_5 : w1.cell? ⟨w.heap.size, 5, none⟩ = some (.int .i64 a.y.den) := by have := Ha.out 5 _ rfl; rwa [Nat.zero_add] at this
      have zb_0 : w1.cell? ⟨w.heap.size + 1, 0, none⟩ = some (.int .i64 b.x.re) := by have := Hb.out 0 _ rfl; rwa [Nat.zero_add] at this
      have zb_1 : w1.cell? ⟨w.heap.size + 1, 1, none⟩ = some (.int .i64 b.x.im) := by have := Hb.out 1 _ rfl; rwa [Nat.zero_add] at this
      have zb_2 : w1.cell? ⟨w.heap.size + 1, 2, none⟩ = some (.int .i64 b.x.den) := by have := Hb.out 2 _ rfl; rwa [Nat.zero_add] at this
      have zb_3 : w1.cell? ⟨w.heap.size + 1, 3, none⟩ = some (.int .i64 b.y.re) := by have := Hb.out 3 _ rfl; rwa [Nat.zero_add] at this
      have zb_4 : w1.cell? ⟨w.heap.size + 1, 4, none⟩ = some (.int .i64 b.y.im) := by have := Hb.out 4 _ rfl; rwa [Nat.zero_add] at this
      have zb_5 : w1.cell? ⟨w.heap.size + 1, 5, none⟩ = some (.int .i64 b.y.den) := by have := Hb.out 5 _ rfl; rwa [Nat.zero_add] at this
      go_wp2_with fail
      refine (sptimes_fr a.y b.x _).mono ?_
      rintro e w2 ho
      rw [HQ.out] at ho
      obtain ⟨rfl, hb⟩ : e = .returned (.tuple #[.agg #[.int .i64 q.re, .int .i64 q.im, .int .i64 q.den], .bool false]) ∧ Below _ _ _ := ho.fn
      clear ho
      have HB := Lib.hid (show Below w.heap.size w w2 from HB.out.trans ((show Below _ _ _ from ((Below.refl _ _).alloc (by first | omega | (simp; done) | (simp <;> omega)) _)).trans (hb.mono (by first | omega | (simp <;> omega)))))
      have Ha : Hid (w2.rangeAt (w.heap.size) 0 [.int .i64 a.x.re, .int .i64 a.x.im, .int .i64 a.x.den, .int .i64 a.y.re, .int .i64 a.y.im, .int .i64 a.y.den]) := rangeAt_below (World.rangeAt_alloc Ha.out _) hb (by first | omega | (simp; done) | (simp <;> omega))
      have Hb : Hid (w2.rangeAt (w.heap.size + 1) 0 [.int .i64 b.x.re, .int .i64 b.x.im, .int .i64 b.x.den, .int .i64 b.y.re, .int .i64 b.y.im, .int .i64 b.y.den]) := rangeAt_below (World.rangeAt_alloc Hb.out _) hb (by first | omega | (simp; done) | (simp <;> omega))
      have Hbp : Hid (w2.rangeAt (w1.heap.size) 0 [.int .i64 p.re, .int .i64 p.im, .int .i64 p.den]) := rangeAt_below (rangeAt_new _ _ _) hb (by first | omega | (simp; done) | (simp <;> omega))
      have hz2 := hb.size
      (try simp at hz2)
      clear hb
      have nA0 : w.heap.size < w2.heap.size := by omega
      have nB0 : ¬ w.heap.size = w2.heap.size := by omega
      have nC0 : ¬ w2.heap.size = w.heap.size := by omega
      have nA1 : w.heap.size + 1 < w2.heap.size := by omega
      have nB1 : ¬ w.heap.size + 1 = w2.heap.size := by omega
      have nC1 : ¬ w2.heap.size = w.heap.size + 1 := by omega
      have nA2 : w1.heap.size < w2.heap.size := by omega
      have nB2 : ¬ w1.heap.size = w2.heap.size := by omega
      have nC2 : ¬ w2.heap.size = w1.heap.size := by omega
      go_wp2_with fail
      refine wp_region_held_drew (S := (fun w' => True)) (by kernel_rfl) (show _ from trivial) (fun hHeld => ?_)
      refine wpAnyH_take (i := 0) (v := ?_) rfl (by kernel_rfl) (by kernel_rfl) (by kernel_rfl) (fun _ _ _ h => h) (Or.inl ⟨by rfl, ?_⟩) (by assumption) ?_
      rotate_left
      (focus (intro w hSw; (try dsimp only at hSw); go_simp; (try with_reducible rfl)))
      (try simp only [Act.put, List.getElem_toArray, List.getElem_cons_zero, List.setIfInBounds_toArray, List.set_cons_zero, List.set_cons_succ])
      refine wpAnyH_take (i := 1) (v := ?_) rfl (by kernel_rfl) (by kernel_rfl) (by kernel_rfl) (fun _ _ _ h => h) (Or.inl ⟨by rfl, ?_⟩) (by assumption) ?_
      rotate_left
      (focus (intro w hSw; (try dsimp only at hSw); go_simp; (try with_reducible rfl)))
      (try simp only [Act.put, List.getElem_toArray, List.getElem_cons_succ, List.getElem_cons_zero, List.setIfInBounds_toArray, List.set_cons_zero, List.set_cons_succ])
      refine wpAnyH_take (i := 2) (v := ?_) rfl (by kernel_rfl) (by kernel_rfl) (by kernel_rfl) (fun _ _ _ h => h) (Or.inl ⟨by rfl, ?_⟩) (by assumption) ?_
      rotate_left
      (focus (intro w hSw; (try dsimp only at hSw); go_simp; (try with_reducible rfl)))
      (try simp only [Act.put, List.getElem_toArray, List.getElem_cons_succ, List.getElem_cons_zero, List.setIfInBounds_toArray, List.set_cons_zero, List.set_cons_succ])
      refine wpAnyH_take (i := 3) (v := ?_) rfl (by kernel_rfl) (by kernel_rfl) (by kernel_rfl) (fun _ _ _ h => h) (Or.inl ⟨by rfl, ?_⟩) (by assumption) ?_
      rotate_left
      (focus (intro w hSw; (try dsimp only at hSw); go_simp; (try with_reducible rfl)))
      (try simp only [Act.put, List.getElem_toArray, List.getElem_cons_succ, List.getElem_cons_zero, List.setIfInBounds_toArray, List.set_cons_zero, List.set_cons_succ])
      refine wpAnyH_take (i := 4) (v := ?_) rfl (by kernel_rfl) (by kernel_rfl) (by kernel_rfl) (fun _ _ _ h => h) (Or.inl ⟨by rfl, ?_⟩) (by assumption) ?_
      rotate_left
      (focus (intro w hSw; (try dsimp only at hSw); go_simp; (try with_reducible rfl)))
      (try simp only [Act.put, List.getElem_toArray, List.getElem_cons_succ, List.getElem_cons_zero, List.setIfInBounds_toArray, List.set_cons_zero, List.set_cons_succ])
      refine wpAnyH_take (i := 5) rfl (by kernel_rfl) (by kernel_rfl) (by kernel_rfl) (fun _ _ _ h => h) (Or.inr ⟨by rfl, rfl⟩) (by assumption) ?_
      (try simp only [Act.put, List.getElem_toArray, List.getElem_cons_succ, List.getElem_cons_zero, List.setIfInBounds_toArray, List.set_cons_zero, List.set_cons_succ])
      refine wpAnyH_take (i := 6) rfl (by kernel_rfl) (by kernel_rfl) (by kernel_rfl) (fun _ _ _ h => h) (Or.inr ⟨by rfl, rfl⟩) (by assumption) ?_
      (try simp only [Act.put, List.getElem_toArray, List.getElem_cons_succ, List.getElem_cons_zero, List.setIfInBounds_toArray, List.set_cons_zero, List.set_cons_succ])
      refine wpAnyH_take (i := 7) (v := ?_) rfl (by kernel_rfl) (by kernel_rfl) (by kernel_rfl) (fun _ _ _ h => h) (Or.inl ⟨by rfl, ?_⟩) (by assumption) ?_
      rotate_left
      (focus (intro w hSw; (try dsimp only at hSw); go_simp; (try with_reducible rfl)))
      (try simp only [Act.put, List.getElem_toArray, List.getElem_cons_succ, List.getElem_cons_zero, List.setIfInBounds_toArray, List.set_cons_zero, List.set_cons_succ])
      refine wpAnyH_take (i := 8) (v := ?_) rfl (by kernel_rfl) (by kernel_rfl) (by kernel_rfl) (fun _ _ _ h => h) (Or.inl ⟨by rfl, ?_⟩) (by assumption) ?_
      rotate_left
      (focus (intro w hSw; (try dsimp only at hSw); go_simp; (try with_reducible rfl)))
      (try simp only [Act.put, List.getElem_toArray, List.getElem_cons_succ, List.getElem_cons_zero, List.setIfInBounds_toArray, List.set_cons_zero, List.set_cons_succ])
      refine wpAnyH_take (i := 9) rfl (by kernel_rfl) (by kernel_rfl) (by kernel_rfl) (fun _ _ _ h => h) (Or.inr ⟨by rfl, rfl⟩) (by assumption) ?_
      (try simp only [Act.put, List.getElem_toArray, List.getElem_cons_succ, List.getElem_cons_zero, List.setIfInBounds_toArray, List.set_cons_zero, List.set_cons_succ])
      refine wpAnyH_take (i := 10) rfl (by kernel_rfl) (by kernel_rfl) (by kernel_rfl) (fun _ _ _ h => h) (Or.inr ⟨by rfl, rfl⟩) (by assumption) ?_
      (try simp only [Act.put, List.getElem_toArray, List.getElem_cons_succ, List.getElem_cons_zero, List.setIfInBounds_toArray, List.set_cons_zero, List.set_cons_succ])
      refine wpAnyH_take (i := 11) (v := ?_) rfl (by kernel_rfl) (by kernel_rfl) (by kernel_rfl) (fun _ _ _ h => h) (Or.inl ⟨by rfl, ?_⟩) (by assumption) ?_
      rotate_left
      (focus (intro w hSw; (try dsimp only at hSw); go_simp; (try with_reducible rfl)))
      (try simp only [Act.put, List.getElem_toArray, List.getElem_cons_succ, List.getElem_cons_zero, List.setIfInBounds_toArray, List.set_cons_zero, List.set_cons_succ])
      refine wpAnyH_take (i := 12) (v := ?_) rfl (by kernel_rfl) (by kernel_rfl) (by kernel_rfl) (fun _ _ _ h => h) (Or.inl ⟨by rfl, ?_⟩) (by assumption) ?_
      rotate_left
      (focus (intro w hSw; (try dsimp only at hSw); go_simp; (try with_reducible rfl)))
      (try simp only [Act.put, List.getElem_toArray, List.getElem_cons_succ, List.getElem_cons_zero, List.setIfInBounds_toArray, List.set_cons_zero, List.set_cons_succ])
      refine wpAnyH_take (i := 13) rfl (by kernel_rfl) (by kernel_rfl) (by kernel_rfl) (fun _ _ _ h => h) (Or.inr ⟨by rfl, rfl⟩) (by assumption) ?_
      (try simp only [Act.put, List.getElem_toArray, List.getElem_cons_succ, List.getElem_cons_zero, List.setIfInBounds_toArray, List.set_cons_zero, List.set_cons_succ])
      refine wpAnyH_take (i := 14) rfl (by kernel_rfl) (by kernel_rfl) (by kernel_rfl) (fun _ _ _ h => h) (Or.inr ⟨by rfl, rfl⟩) (by assumption) ?_
      (try simp only [Act.put, List.getElem_toArray, List.getElem_cons_succ, List.getElem_cons_zero, List.setIfInBounds_toArray, List.set_cons_zero, List.set_cons_succ])
      refine wpAnyH_take (i := 15) rfl (by kernel_rfl) (by kernel_rfl) (by kernel_rfl) (fun _ _ _ h => h) (Or.inr ⟨by rfl, rfl⟩) (by assumption) ?_
      (try simp only [Act.put, List.getElem_toArray, List.getElem_cons_succ, List.getElem_cons_zero, List.setIfInBounds_toArray, List.set_cons_zero, List.set_cons_succ])
      refine wpAnyH_take (i := 16) (v := ?_) rfl (by kernel_rfl) (by kernel_rfl) (by kernel_rfl) (fun _ _ _ h => h) (Or.inl ⟨by rfl, ?_⟩) (by assumption) ?_
      rotate_left
      (focus (intro w hSw; (try dsimp only at hSw); go_simp; (try with_reducible rfl)))
      (try simp only [Act.put, List.getElem_toArray, List.getElem_cons_succ, List.getElem_cons_zero, List.setIfInBounds_toArray, List.set_cons_zero, List.set_cons_succ])
      refine wpAnyH_take (i := 17) (v := ?_) rfl (by kernel_rfl) (by kernel_rfl) (by kernel_rfl) (fun _ _ _ h => h) (Or.inl ⟨by rfl, ?_⟩) (by assumption) ?_
      rotate_left
      (focus (intro w hSw; (try dsimp only at hSw); go_simp; (try with_reducible rfl)))
      (try simp only [Act.put, List.getElem_toArray, List.getElem_cons_succ, List.getElem_cons_zero, List.setIfInBounds_toArray, List.set_cons_zero, List.set_cons_succ])
      refine wpAnyH_take (i := 18) rfl (by kernel_rfl) (by kernel_rfl) (by kernel_rfl) (fun _ _ _ h => h) (Or.inr ⟨by rfl, rfl⟩) (by assumption) ?_
      (try simp only [Act.put, List.getElem_toArray, List.getElem_cons_succ, List.getElem_cons_zero, List.setIfInBounds_toArray, List.set_cons_zero, List.set_cons_succ])
      refine wpAnyH_take (i := 19) rfl (by kernel_rfl) (by kernel_rfl) (by kernel_rfl) (fun _ _ _ h => h) (Or.inr ⟨by rfl, rfl⟩) (by assumption) ?_
      (try simp only [Act.put, List.getElem_toArray, List.getElem_cons_succ, List.getElem_cons_zero, List.setIfInBounds_toArray, List.set_cons_zero, List.set_cons_succ])
      refine wpAnyH_take (i := 20) rfl (by kernel_rfl) (by kernel_rfl) (by kernel_rfl) (fun _ _ _ h => h) (Or.inr ⟨by rfl, rfl⟩) (by assumption) ?_
      (try simp only [Act.put, List.getElem_toArray, List.getElem_cons_succ, List.getElem_cons_zero, List.setIfInBounds_toArray, List.set_cons_zero, List.set_cons_succ])
      refine wpAnyH_take (i := 21) rfl (by kernel_rfl) (by kernel_rfl) (by kernel_rfl) (fun _ _ _ h => h) (Or.inr ⟨by rfl, rfl⟩) (by assumption) ?_
      (try simp only [Act.put, List.getElem_toArray, List.getElem_cons_succ, List.getElem_cons_zero, List.setIfInBounds_toArray, List.set_cons_zero, List.set_cons_succ])
      refine wpAnyH_take (i := 22) rfl (by kernel_rfl) (by kernel_rfl) (by kernel_rfl) (fun _ _ _ h => h) (Or.inr ⟨by rfl, rfl⟩) (by assumption) ?_
      (try simp only [Act.put, List.getElem_toArray, List.getElem_cons_succ, List.getElem_cons_zero, List.setIfInBounds_toArray, List.set_cons_zero, List.set_cons_succ])
      refine wpAnyH_take (i := 23) (v := ?_) rfl (by kernel_rfl) (by kernel_rfl) (by kernel_rfl) (fun _ _ _ h => h) (Or.inl ⟨by rfl, ?_⟩) (by assumption) ?_
      rotate_left
      (focus (intro w hSw; (try dsimp only at hSw); go_simp; (try with_reducible rfl)))
      (try simp only [Act.put, List.getElem_toArray, List.getElem_cons_succ, List.getElem_cons_zero, List.setIfInBounds_toArray, List.set_cons_zero, List.set_cons_succ])
      refine wpAnyH_take (i := 24) (v := ?_) rfl (by kernel_rfl) (by kernel_rfl) (by kernel_rfl) (fun _ _ _ h => h) (Or.inl ⟨by rfl, ?_⟩) (by assumption) ?_
      rotate_left
      (focus (intro w hSw; (try dsimp only at hSw); go_simp; (try with_reducible rfl)))
      (try simp only [Act.put, List.getElem_toArray, List.getElem_cons_succ, List.getElem_cons_zero, List.setIfInBounds_toArray, List.set_cons_zero, List.set_cons_succ])
      refine wpAnyH_done (by kernel_rfl) ?_ _
      clear hHeld
      go_wp2_with fail
      go_ret
      exact ⟨by rw [HG.out]; rfl, (by (repeat' first | (with_reducible exact HB.out) | with_reducible refine setCells_below _ _ _ ?_ (by first | omega | (simp <;> omega)) | with_reducible refine Below.setCell ?_ (by show _ ≤ _; first | omega | (simp <;> omega) | simp) _ | with_reducible refine Below.alloc ?_ (by first | omega | (simp <;> omega)) _ | with_reducible apply Below.drew | with_reducible refine below_drewN ?_ _))⟩
    · skip
      obtain ⟨hva, hvb⟩ := gJAl_jv (a := a) (b := b) (by rw [hp]) (by rw [hq])
      have hg : gJAl a b = (frB p q && (dkJ a == dkJ b)) := by rw [gJAl_eq (by rw [hp]) (by rw [hq]), hp, hq]
      clear hp hq
      have hE : ∀ w, (Op.equalIn 10000 23 (.agg #[.int .i64 p.re, .int .i64 p.im, .int .i64 p.den]) (.agg #[.int .i64 q.re, .int .i64 q.im, .int .i64 q.den])).run Tryd.prog w = .ok (frB p q) w := eqFr_run p q 9998
      cases hf : frB p q
      · skip
        have HG : Hid (gJAl a b = false) := by show _ = _; rw [hg, hf]; rfl
        rw [hf] at hE
        clear hg hf
        have HB : Hid (Below w.heap.size w w) := Below.refl _ _
        go_enter Tryd.func36, Tryd.ntmps36
        go_wp2_with fail
        refine (sptimes_fr a.x b.y _).mono ?_
        rintro e w1 ho
        rw [HP.out] at ho
        obtain ⟨rfl, hb⟩ : e = .returned (.tuple #[.agg #[.int .i64 p.re, .int .i64 p.im, .int .i64 p.den], .bool true]) ∧ Below _ _ _ := ho.fn
        clear ho
        have HB := Lib.hid (show Below w.heap.size w w1 from HB.out.trans ((show Below _ _ _ from (((Below.refl _ _).alloc (by first | omega | (simp; done) | (simp <;> omega)) _).alloc (by first | omega | (simp; done) | (simp <;> omega)) _)).trans (hb.mono (by first | omega | (simp <;> omega)))))
        have Ha : Hid (w1.rangeAt (w.heap.size) 0 [.int .i64 a.x.re, .int .i64 a.x.im, .int .i64 a.x.den, .int .i64 a.y.re, .int .i64 a.y.im, .int .i64 a.y.den]) := rangeAt_below (World.rangeAt_alloc (rangeAt_new _ _ _) _) hb (by first | omega | (simp; done) | (simp <;> omega))
        have Hb : Hid (w1.rangeAt (w.heap.size + 1) 0 [.int .i64 b.x.re, .int .i64 b.x.im, .int .i64 b.x.den, .int .i64 b.y.re, .int .i64 b.y.im, .int .i64 b.y.den]) := rangeAt_below (rangeAt_nw (by simp)) hb (by first | omega | (simp; done) | (simp <;> omega))
        have hz1 := hb.size
        (try simp at hz1)
        clear hb
        have nA0 : w.heap.size < w1.heap.size := by omega
        have nB0 : ¬ w.heap.size = w1.heap.size := by omega
        have nC0 : ¬ w1.heap.size = w.heap.size := by omega
        have nA1 : w.heap.size + 1 < w1.heap.size := by omega
        have nB1 : ¬ w.heap.size + 1 = w1.heap.size := by omega
        have nC1 : ¬ w1.heap.size = w.heap.size + 1 := by omega
        have za_0 : w1.cell? ⟨w.heap.size, 0, none⟩ = some (.int .i64 a.x.re) := by have := Ha.out 0 _ rfl; rwa [Nat.zero_add] at this
        have za_1 : w1.cell? ⟨w.heap.size, 1, none⟩ = some (.int .i64 a.x.im) := by have := Ha.out 1 _ rfl; rwa [Nat.zero_add] at this
        have za_2 : w1.cell? ⟨w.heap.size, 2, none⟩ = some (.int .i64 a.x.den) := by have := Ha.out 2 _ rfl; rwa [Nat.zero_add] at this
        have za_3 : w1.cell? ⟨w.heap.size, 3, none⟩ = some (.int .i64 a.y.re) := by have := Ha.out 3 _ rfl; rwa [Nat.zero_add] at this
        have za_4 : w1.cell? ⟨w.heap.size, 4, none⟩ = some (.int .i64 a.y.im) := by have := Ha.out 4 _ rfl; rwa [Nat.zero_add] at this
        have za_5 : w1.cell? ⟨w.heap.size, 5, none⟩ = some (.int .i64 a.y.den) := by have := Ha.out 5 _ rfl; rwa [Nat.zero_add] at this
        have zb_0 : w1.cell? ⟨w.heap.size + 1, 0, none⟩ = some (.int .i64 b.x.re) := by have := Hb.out 0 _ rfl; rwa [Nat.zero_add] at this
        have zb_1 : w1.cell? ⟨w.heap.size + 1, 1, none⟩ = some (.int .i64 b.x.im) := by have := Hb.out 1 _ rfl; rwa [Nat.zero_add] at this
        have zb_2 : w1.cell? ⟨w.heap.size + 1, 2, none⟩ = some (.int .i64 b.x.den) := by have := Hb.out 2 _ rfl; rwa [Nat.zero_add] at this
        have zb_3 : w1.cell? ⟨w.heap.size + 1, 3, none⟩ = some (.int .i64 b.y.re) := by have := Hb.out 3 _ rfl; rwa [Nat.zero_add] at this
        have zb_4 : w1.cell? ⟨w.heap.size + 1, 4, none⟩ = some (.int .i64 b.y.im) := by have := Hb.out 4 _ rfl; rwa [Nat.zero_add] at this
        have zb_5 : w1.cell? ⟨w.heap.size + 1, 5, none⟩ = some (.int .i64 b.y.den) := by have := Hb.out 5 _ rfl; rwa [Nat.zero_add] at this
        go_wp2_with fail
        refine (sptimes_fr a.y b.x _).mono ?_
        rintro e w2 ho
        rw [HQ.out] at ho
        obtain ⟨rfl, hb⟩ : e = .returned (.tuple #[.agg #[.int .i64 q.re, .int .i64 q.im, .int .i64 q.den], .bool true]) ∧ Below _ _ _ := ho.fn
        clear ho
        have HB := Lib.hid (show Below w.heap.size w w2 from HB.out.trans ((show Below _ _ _ from ((Below.refl _ _).alloc (by first | omega | (simp; done) | (simp <;> omega)) _)).trans (hb.mono (by first | omega | (simp <;> omega)))))
        have Ha : Hid (w2.rangeAt (w.heap.size) 0 [.int .i64 a.x.re, .int .i64 a.x.im, .int .i64 a.x.den, .int .i64 a.y.re, .int .i64 a.y.im, .int .i64 a.y.den]) := rangeAt_below (World.rangeAt_alloc Ha.out _) hb (by first | omega | (simp; done) | (simp <;> omega))
        have Hb : Hid (w2.rangeAt (w.heap.size + 1) 0 [.int .i64 b.x.re, .int .i64 b.x.im, .int .i64 b.x.den, .int .i64 b.y.re, .int .i64 b.y.im, .int .i64 b.y.den]) := rangeAt_below (World.rangeAt_alloc Hb.out _) hb (by first | omega | (simp; done) | (simp <;> omega))
        have Hbp : Hid (w2.rangeAt (w1.heap.size) 0 [.int .i64 p.re, .int .i64 p.im, .int .i64 p.den]) := rangeAt_below (rangeAt_new _ _ _) hb (by first | omega | (simp; done) | (simp <;> omega))
        have hz2 := hb.size
        (try simp at hz2)
        clear hb
        have nA0 : w.heap.size < w2.heap.size := by omega
        have nB0 : ¬ w.heap.size = w2.heap.size := by omega
        have nC0 : ¬ w2.heap.size = w.heap.size := by omega
        have nA1 : w.heap.size + 1 < w2.heap.size := by omega
        have nB1 : ¬ w.heap.size + 1 = w2.heap.size := by omega
        have nC1 : ¬ w2.heap.size = w.heap.size + 1 := by omega
        have nA2 : w1.heap.size < w2.heap.size := by omega
        have nB2 : ¬ w1.heap.size = w2.heap.size := by omega
        have nC2 : ¬ w2.heap.size = w1.heap.size := by omega
        go_wp2_with fail
        refine wp_region_held_drew (S := (fun w' => (w'.cell? ⟨w.heap.size, 0, none⟩ = some (.int .i64 a.x.re) ∧ w'.cell? ⟨w.heap.size, 1, none⟩ = some (.int .i64 a.x.im) ∧ w'.cell? ⟨w.heap.size, 2, none⟩ = some (.int .i64 a.x.den) ∧ w'.cell? ⟨w.heap.size, 3, none⟩ = some (.int .i64 a.y.re) ∧ w'.cell? ⟨w.heap.size, 4, none⟩ = some (.int .i64 a.y.im) ∧ w'.cell? ⟨w.heap.size, 5, none⟩ = some (.int .i64 a.y.den)) ∧ (w'.cell? ⟨w.heap.size + 1, 0, none⟩ = some (.int .i64 b.x.re) ∧ w'.cell? ⟨w.heap.size + 1, 1, none⟩ = some (.int .i64 b.x.im) ∧ w'.cell? ⟨w.heap.size + 1, 2, none⟩ = some (.int .i64 b.x.den) ∧ w'.cell? ⟨w.heap.size + 1, 3, none⟩ = some (.int .i64 b.y.re) ∧ w'.cell? ⟨w.heap.size + 1, 4, none⟩ = some (.int .i64 b.y.im) ∧ w'.cell? ⟨w.heap.size + 1, 5, none⟩ = some (.int .i64 b.y.den)) ∧ (w'.cell? ⟨w1.heap.size, 0, none⟩ = some (.int .i64 p.re) ∧ w'.cell? ⟨w1.heap.size, 1, none⟩ = some (.int .i64 p.im) ∧ w'.cell? ⟨w1.heap.size, 2, none⟩ = some (.int .i64 p.den)) ∧ (w'.cell? ⟨w2.heap.size, 0, none⟩ = some (.int .i64 q.re) ∧ w'.cell? ⟨w2.heap.size, 1, none⟩ = some (.int .i64 q.im) ∧ w'.cell? ⟨w2.heap.size, 2, none⟩ = some (.int .i64 q.den)))) (by kernel_rfl) (show _ from ⟨(cellsJ (show World.rangeAt (World.drew (w2.alloc (.cells #[.int .i64 q.re, .int .i64 q.im, .int .i64 q.den] 23))) (w.heap.size) 0 [.int .i64 a.x.re, .int .i64 a.x.im, .int .i64 a.x.den, .int .i64 a.y.re, .int .i64 a.y.im, .int .i64 a.y.den] from (World.rangeAt_alloc Ha.out _))), (cellsJ (show World.rangeAt (World.drew (w2.alloc (.cells #[.int .i64 q.re, .int .i64 q.im, .int .i64 q.den] 23))) (w.heap.size + 1) 0 [.int .i64 b.x.re, .int .i64 b.x.im, .int .i64 b.x.den, .int .i64 b.y.re, .int .i64 b.y.im, .int .i64 b.y.den] from (World.rangeAt_alloc Hb.out _))), (cellsF (show World.rangeAt (World.drew (w2.alloc (.cells #[.int .i64 q.re, .int .i64 q.im, .int .i64 q.den] 23))) (w1.heap.size) 0 [.int .i64 p.re, .int .i64 p.im, .int .i64 p.den] from (World.rangeAt_alloc Hbp.out _))), (cellsF (show World.rangeAt (World.drew (w2.alloc (.cells #[.int .i64 q.re, .int .i64 q.im, .int .i64 q.den] 23))) (w2.heap.size) 0 [.int .i64 q.re, .int .i64 q.im, .int .i64 q.den] from (rangeAt_new _ _ _)))⟩) (fun hHeld => ?_)
        refine wpAnyH_take (i := 0) (v := ?_) rfl (by kernel_rfl) (by kernel_rfl) (by kernel_rfl) (fun _ _ _ h => h) (Or.inl ⟨by rfl, ?_⟩) (by assumption) ?_
        rotate_left
        (focus (intro w hSw; (try dsimp only at hSw); go_simp; (try with_reducible rfl)))
        (try simp only [Act.put, List.getElem_toArray, List.getElem_cons_zero, List.setIfInBounds_toArray, List.set_cons_zero, List.set_cons_succ])
        refine wpAnyH_take (i := 1) (v := ?_) rfl (by kernel_rfl) (by kernel_rfl) (by kernel_rfl) (fun _ _ _ h => h) (Or.inl ⟨by rfl, ?_⟩) (by assumption) ?_
        rotate_left
        (focus (intro w hSw; (try dsimp only at hSw); go_simp; (try with_reducible rfl)))
        (try simp only [Act.put, List.getElem_toArray, List.getElem_cons_succ, List.getElem_cons_zero, List.setIfInBounds_toArray, List.set_cons_zero, List.set_cons_succ])
        refine wpAnyH_take (i := 2) (v := ?_) rfl (by kernel_rfl) (by kernel_rfl) (by kernel_rfl) (fun _ _ _ h => h) (Or.inl ⟨by rfl, ?_⟩) (by assumption) ?_
        rotate_left
        (focus (intro w hSw; (try dsimp only at hSw); go_simp; (try with_reducible rfl)))
        (try simp only [Act.put, List.getElem_toArray, List.getElem_cons_succ, List.getElem_cons_zero, List.setIfInBounds_toArray, List.set_cons_zero, List.set_cons_succ])
        refine wpAnyH_take (i := 3) (v := ?_) rfl (by kernel_rfl) (by kernel_rfl) (by kernel_rfl) (fun _ _ _ h => h) (Or.inl ⟨by rfl, ?_⟩) (by assumption) ?_
        rotate_left
        (focus (intro w hSw; (try dsimp only at hSw); go_simp; (try with_reducible rfl)))
        (try simp only [Act.put, List.getElem_toArray, List.getElem_cons_succ, List.getElem_cons_zero, List.setIfInBounds_toArray, List.set_cons_zero, List.set_cons_succ])
        refine wpAnyH_take (i := 4) (v := ?_) rfl (by kernel_rfl) (by kernel_rfl) (by kernel_rfl) (fun _ _ _ h => h) (Or.inl ⟨by rfl, ?_⟩) (by assumption) ?_
        rotate_left
        (focus (intro w hSw; (try dsimp only at hSw); go_simp; (try with_reducible rfl)))
        (try simp only [Act.put, List.getElem_toArray, List.getElem_cons_succ, List.getElem_cons_zero, List.setIfInBounds_toArray, List.set_cons_zero, List.set_cons_succ])
        refine wpAnyH_take (i := 5) (v := ?_) rfl (by kernel_rfl) (by kernel_rfl) (by kernel_rfl) (fun _ _ _ h => h) (Or.inl ⟨by rfl, ?_⟩) (by assumption) ?_
        rotate_left
        (focus (intro w hSw; (try dsimp only at hSw); go_simp; (try with_reducible rfl)))
        (try simp only [Act.put, List.getElem_toArray, List.getElem_cons_succ, List.getElem_cons_zero, List.setIfInBounds_toArray, List.set_cons_zero, List.set_cons_succ])
        refine wpAnyH_ready (rs := [6]) (by kernel_rfl) (by simp) ?_
        refine AllReadyH.cons rfl (fun K hK => ?_) AllReadyH.nil
        go_simp
        go_at_call 92
        (with_reducible refine (sjv_any a _).mono ?_)
        rintro e w3 ho
        rw [hva] at ho
        obtain ⟨rfl, hb⟩ : e = .returned (.bool true) ∧ Below _ _ _ := (id ho)
        clear ho
        have HB := Lib.hid (show Below w.heap.size w w3 from HB.out.trans ((show Below _ _ _ from (((Below.refl _ _).alloc (by first | omega | (simp; done) | (simp <;> omega)) _).drew)).trans (hb.mono (by first | omega | (simp <;> omega)))))
        have Ha : Hid (w3.rangeAt (w.heap.size) 0 [.int .i64 a.x.re, .int .i64 a.x.im, .int .i64 a.x.den, .int .i64 a.y.re, .int .i64 a.y.im, .int .i64 a.y.den]) := rangeAt_below (show World.rangeAt (World.drew (w2.alloc (.cells #[.int .i64 q.re, .int .i64 q.im, .int .i64 q.den] 23))) (w.heap.size) 0 [.int .i64 a.x.re, .int .i64 a.x.im, .int .i64 a.x.den, .int .i64 a.y.re, .int .i64 a.y.im, .int .i64 a.y.den] from (World.rangeAt_alloc Ha.out _)) hb (by first | omega | (simp; done) | (simp <;> omega))
        have Hb : Hid (w3.rangeAt (w.heap.size + 1) 0 [.int .i64 b.x.re, .int .i64 b.x.im, .int .i64 b.x.den, .int .i64 b.y.re, .int .i64 b.y.im, .int .i64 b.y.den]) := rangeAt_below (show World.rangeAt (World.drew (w2.alloc (.cells #[.int .i64 q.re, .int .i64 q.im, .int .i64 q.den] 23))) (w.heap.size + 1) 0 [.int .i64 b.x.re, .int .i64 b.x.im, .int .i64 b.x.den, .int .i64 b.y.re, .int .i64 b.y.im, .int .i64 b.y.den] from (World.rangeAt_alloc Hb.out _)) hb (by first | omega | (simp; done) | (simp <;> omega))
        have Hbp : Hid (w3.rangeAt (w1.heap.size) 0 [.int .i64 p.re, .int .i64 p.im, .int .i64 p.den]) := rangeAt_below (show World.rangeAt (World.drew (w2.alloc (.cells #[.int .i64 q.re, .int .i64 q.im, .int .i64 q.den] 23))) (w1.heap.size) 0 [.int .i64 p.re, .int .i64 p.im, .int .i64 p.den] from (World.rangeAt_alloc Hbp.out _)) hb (by first | omega | (simp; done) | (simp <;> omega))
        have Hbq : Hid (w3.rangeAt (w2.heap.size) 0 [.int .i64 q.re, .int .i64 q.im, .int .i64 q.den]) := rangeAt_below (show World.rangeAt (World.drew (w2.alloc (.cells #[.int .i64 q.re, .int .i64 q.im, .int .i64 q.den] 23))) (w2.heap.size) 0 [.int .i64 q.re, .int .i64 q.im, .int .i64 q.den] from (rangeAt_new _ _ _)) hb (by first | omega | (simp; done) | (simp <;> omega))
        have hz3 := hb.size
        (try simp at hz3)
        clear hb
        have nA0 : w.heap.size < w3.heap.size := by omega
        have nB0 : ¬ w.heap.size = w3.heap.size := by omega
        have nC0 : ¬ w3.heap.size = w.heap.size := by omega
        have nA1 : w.heap.size + 1 < w3.heap.size := by omega
        have nB1 : ¬ w.heap.size + 1 = w3.heap.size := by omega
        have nC1 : ¬ w3.heap.size = w.heap.size + 1 := by omega
        have nA2 : w1.heap.size < w3.heap.size := by omega
        have nB2 : ¬ w1.heap.size = w3.heap.size := by omega
        have nC2 : ¬ w3.heap.size = w1.heap.size := by omega
        have nA3 : w2.heap.size < w3.heap.size := by omega
        have nB3 : ¬ w2.heap.size = w3.heap.size := by omega
        have nC3 : ¬ w3.heap.size = w2.heap.size := by omega
        refine hK.out _ _ (show _ from ⟨(cellsJ Ha.out), (cellsJ Hb.out), (cellsF Hbp.out), (cellsF Hbq.out)⟩) (fun hHeld => ?_)
        clear hK K
        (try simp only [Act.put, List.getElem_toArray, List.getElem_cons_succ, List.getElem_cons_zero, List.setIfInBounds_toArray, List.set_cons_zero, List.set_cons_succ])
        refine wpAnyH_take (i := 7) (v := ?_) rfl (by kernel_rfl) (by kernel_rfl) (by kernel_rfl) (fun _ _ _ h => h) (Or.inl ⟨by rfl, ?_⟩) (by assumption) ?_
        rotate_left
        (focus (intro w hSw; (try dsimp only at hSw); go_simp; (try with_reducible rfl)))
        (try simp only [Act.put, List.getElem_toArray, List.getElem_cons_succ, List.getElem_cons_zero, List.setIfInBounds_toArray, List.set_cons_zero, List.set_cons_succ])
        refine wpAnyH_take (i := 8) (v := ?_) rfl (by kernel_rfl) (by kernel_rfl) (by kernel_rfl) (fun _ _ _ h => h) (Or.inl ⟨by rfl, ?_⟩) (by assumption) ?_
        rotate_left
        (focus (intro w hSw; (try dsimp only at hSw); go_simp; (try with_reducible rfl)))
        (try simp only [Act.put, List.getElem_toArray, List.getElem_cons_succ, List.getElem_cons_zero, List.setIfInBounds_toArray, List.set_cons_zero, List.set_cons_succ])
        refine wpAnyH_take (i := 9) (v := ?_) rfl (by kernel_rfl) (by kernel_rfl) (by kernel_rfl) (fun _ _ _ h => h) (Or.inl ⟨by rfl, ?_⟩) (by assumption) ?_
        rotate_left
        (focus (intro w hSw; (try dsimp only at hSw); go_simp; (try with_reducible rfl)))
        (try simp only [Act.put, List.getElem_toArray, List.getElem_cons_succ, List.getElem_cons_zero, List.setIfInBounds_toArray, List.set_cons_zero, List.set_cons_succ])
        refine wpAnyH_ready (rs := [10]) (by kernel_rfl) (by simp) ?_
        refine AllReadyH.cons rfl (fun K hK => ?_) AllReadyH.nil
        go_simp
        go_at_call 92
        (with_reducible refine (sjv_any b _).mono ?_)
        rintro e w4 ho
        rw [hvb] at ho
        obtain ⟨rfl, hb⟩ : e = .returned (.bool true) ∧ Below _ _ _ := (id ho)
        clear ho
        have HB := Lib.hid (show Below w.heap.size w w4 from HB.out.trans ((show Below _ _ _ from (Below.refl _ _)).trans (hb.mono (by first | omega | (simp <;> omega)))))
        have Ha : Hid (w4.rangeAt (w.heap.size) 0 [.int .i64 a.x.re, .int .i64 a.x.im, .int .i64 a.x.den, .int .i64 a.y.re, .int .i64 a.y.im, .int .i64 a.y.den]) := rangeAt_below Ha.out hb (by first | omega | (simp; done) | (simp <;> omega))
        have Hb : Hid (w4.rangeAt (w.heap.size + 1) 0 [.int .i64 b.x.re, .int .i64 b.x.im, .int .i64 b.x.den, .int .i64 b.y.re, .int .i64 b.y.im, .int .i64 b.y.den]) := rangeAt_below Hb.out hb (by first | omega | (simp; done) | (simp <;> omega))
        have Hbp : Hid (w4.rangeAt (w1.heap.size) 0 [.int .i64 p.re, .int .i64 p.im, .int .i64 p.den]) := rangeAt_below Hbp.out hb (by first | omega | (simp; done) | (simp <;> omega))
        have Hbq : Hid (w4.rangeAt (w2.heap.size) 0 [.int .i64 q.re, .int .i64 q.im, .int .i64 q.den]) := rangeAt_below Hbq.out hb (by first | omega | (simp; done) | (simp <;> omega))
        have hz4 := hb.size
        (try simp at hz4)
        clear hb
        have nA0 : w.heap.size < w4.heap.size := by omega
        have nB0 : ¬ w.heap.size = w4.heap.size := by omega
        have nC0 : ¬ w4.heap.size = w.heap.size := by omega
        have nA1 : w.heap.size + 1 < w4.heap.size := by omega
        have nB1 : ¬ w.heap.size + 1 = w4.heap.size := by omega
        have nC1 : ¬ w4.heap.size = w.heap.size + 1 := by omega
        have nA2 : w1.heap.size < w4.heap.size := by omega
        have nB2 : ¬ w1.heap.size = w4.heap.size := by omega
        have nC2 : ¬ w4.heap.size = w1.heap.size := by omega
        have nA3 : w2.heap.size < w4.heap.size := by omega
        have nB3 : ¬ w2.heap.size = w4.heap.size := by omega
        have nC3 : ¬ w4.heap.size = w2.heap.size := by omega
        refine hK.out _ _ (show _ from ⟨(cellsJ Ha.out), (cellsJ Hb.out), (cellsF Hbp.out), (cellsF Hbq.out)⟩) (fun hHeld => ?_)
        clear hK K
        (try simp only [Act.put, List.getElem_toArray, List.getElem_cons_succ, List.getElem_cons_zero, List.setIfInBounds_toArray, List.set_cons_zero, List.set_cons_succ])
        refine wpAnyH_take (i := 11) (v := ?_) rfl (by kernel_rfl) (by kernel_rfl) (by kernel_rfl) (fun _ _ _ h => h) (Or.inl ⟨by rfl, ?_⟩) (by assumption) ?_
        rotate_left
        (focus (intro w hSw; (try dsimp only at hSw); go_simp; (try with_reducible rfl)))
        (try simp only [Act.put, List.getElem_toArray, List.getElem_cons_succ, List.getElem_cons_zero, List.setIfInBounds_toArray, List.set_cons_zero, List.set_cons_succ])
        refine wpAnyH_take (i := 12) (v := ?_) rfl (by kernel_rfl) (by kernel_rfl) (by kernel_rfl) (fun _ _ _ h => h) (Or.inl ⟨by rfl, ?_⟩) (by assumption) ?_
        rotate_left
        (focus (intro w hSw; (try dsimp only at hSw); go_simp; (try with_reducible rfl)))
        (try simp only [Act.put, List.getElem_toArray, List.getElem_cons_succ, List.getElem_cons_zero, List.setIfInBounds_toArray, List.set_cons_zero, List.set_cons_succ])
        refine wpAnyH_take (i := 13) (v := ?_) rfl (by kernel_rfl) (by kernel_rfl) (by kernel_rfl) (fun _ _ _ h => h) (Or.inl ⟨by rfl, ?_⟩) (by assumption) ?_
        rotate_left
        (focus (intro w hSw; (try dsimp only at hSw); go_simp; (try with_reducible rfl)))
        (try simp only [Act.put, List.getElem_toArray, List.getElem_cons_succ, List.getElem_cons_zero, List.setIfInBounds_toArray, List.set_cons_zero, List.set_cons_succ])
        refine wpAnyH_take (i := 14) (v := ?_) rfl (by kernel_rfl) (by kernel_rfl) (by kernel_rfl) (fun _ _ _ h => h) (Or.inl ⟨by rfl, ?_⟩) (by assumption) ?_
        rotate_left
        (focus (intro w hSw; (try dsimp only at hSw); go_simp; (try with_reducible rfl)))
        (try simp only [Act.put, List.getElem_toArray, List.getElem_cons_succ, List.getElem_cons_zero, List.setIfInBounds_toArray, List.set_cons_zero, List.set_cons_succ])
        refine wpAnyH_take (i := 15) (v := ?_) rfl (by kernel_rfl) (by kernel_rfl) (by kernel_rfl) (fun _ _ _ h => h) (Or.inl ⟨by rfl, ?_⟩) (by assumption) ?_
        rotate_left
        (focus (intro w hSw; (try dsimp only at hSw); go_simp; (try with_reducible rfl)))
        (try simp only [Act.put, List.getElem_toArray, List.getElem_cons_succ, List.getElem_cons_zero, List.setIfInBounds_toArray, List.set_cons_zero, List.set_cons_succ])
        refine wpAnyH_take (i := 16) (v := ?_) rfl (by kernel_rfl) (by kernel_rfl) (by kernel_rfl) (fun _ _ _ h => h) (Or.inl ⟨by rfl, ?_⟩) (by assumption) ?_
        rotate_left
        (focus (intro w hSw; (try dsimp only at hSw); go_simp; (try with_reducible rfl)))
        (try simp only [Act.put, List.getElem_toArray, List.getElem_cons_succ, List.getElem_cons_zero, List.setIfInBounds_toArray, List.set_cons_zero, List.set_cons_succ])
        refine wpAnyH_take (i := 17) (v := ?_) rfl (by kernel_rfl) (by kernel_rfl) (by kernel_rfl) (fun _ _ _ h => h) (Or.inl ⟨by rfl, ?_⟩) (by assumption) ?_
        rotate_left
        (focus (intro w hSw; (try dsimp only at hSw); go_simp; (try with_reducible rfl)))
        (try simp only [Act.put, List.getElem_toArray, List.getElem_cons_succ, List.getElem_cons_zero, List.setIfInBounds_toArray, List.set_cons_zero, List.set_cons_succ])
        refine wpAnyH_take (i := 18) rfl (by kernel_rfl) (by kernel_rfl) (by kernel_rfl) (fun _ _ _ h => h) (Or.inr ⟨by rfl, rfl⟩) (by assumption) ?_
        (try simp only [Act.put, List.getElem_toArray, List.getElem_cons_succ, List.getElem_cons_zero, List.setIfInBounds_toArray, List.set_cons_zero, List.set_cons_succ])
        refine wpAnyH_take (i := 19) rfl (by kernel_rfl) (by kernel_rfl) (by kernel_rfl) (fun _ _ _ h => h) (Or.inr ⟨by rfl, rfl⟩) (by assumption) ?_
        (try simp only [Act.put, List.getElem_toArray, List.getElem_cons_succ, List.getElem_cons_zero, List.setIfInBounds_toArray, List.set_cons_zero, List.set_cons_succ])
        refine wpAnyH_take (i := 20) rfl (by kernel_rfl) (by kernel_rfl) (by kernel_rfl) (fun _ _ _ h => h) (Or.inr ⟨by rfl, rfl⟩) (by assumption) ?_
        (try simp only [Act.put, List.getElem_toArray, List.getElem_cons_succ, List.getElem_cons_zero, List.setIfInBounds_toArray, List.set_cons_zero, List.set_cons_succ])
        refine wpAnyH_take (i := 21) rfl (by kernel_rfl) (by kernel_rfl) (by kernel_rfl) (fun _ _ _ h => h) (Or.inr ⟨by rfl, rfl⟩) (by assumption) ?_
        (try simp only [Act.put, List.getElem_toArray, List.getElem_cons_succ, List.getElem_cons_zero, List.setIfInBounds_toArray, List.set_cons_zero, List.set_cons_succ])
        refine wpAnyH_take (i := 22) rfl (by kernel_rfl) (by kernel_rfl) (by kernel_rfl) (fun _ _ _ h => h) (Or.inr ⟨by rfl, rfl⟩) (by assumption) ?_
        (try simp only [Act.put, List.getElem_toArray, List.getElem_cons_succ, List.getElem_cons_zero, List.setIfInBounds_toArray, List.set_cons_zero, List.set_cons_succ])
        refine wpAnyH_take (i := 23) (v := ?_) rfl (by kernel_rfl) (by kernel_rfl) (by kernel_rfl) (fun _ _ _ h => h) (Or.inl ⟨by rfl, ?_⟩) (by assumption) ?_
        rotate_left
        (focus (intro w hSw; (try dsimp only at hSw); go_simp; (try with_reducible rfl)))
        (try simp only [Act.put, List.getElem_toArray, List.getElem_cons_succ, List.getElem_cons_zero, List.setIfInBounds_toArray, List.set_cons_zero, List.set_cons_succ])
        refine wpAnyH_take (i := 24) (v := ?_) rfl (by kernel_rfl) (by kernel_rfl) (by kernel_rfl) (fun _ _ _ h => h) (Or.inl ⟨by rfl, ?_⟩) (by assumption) ?_
        rotate_left
        (focus (intro w hSw; (try dsimp only at hSw); go_simp; (try with_reducible rfl)))
        (try simp only [Act.put, List.getElem_toArray, List.getElem_cons_succ, List.getElem_cons_zero, List.setIfInBounds_toArray, List.set_cons_zero, List.set_cons_succ])
        refine wpAnyH_done (by kernel_rfl) ?_ _
        clear hHeld
        go_wp2_with fail
        go_ret
        exact ⟨by rw [HG.out]; rfl, (by (repeat' first | (with_reducible exact HB.out) | with_reducible refine setCells_below _ _ _ ?_ (by first | omega | (simp <;> omega)) | with_reducible refine Below.setCell ?_ (by show _ ≤ _; first | omega | (simp <;> omega) | simp) _ | with_reducible refine Below.alloc ?_ (by first | omega | (simp <;> omega)) _ | with_reducible apply Below.drew | with_reducible refine below_drewN ?_ _))⟩
      · skip
        have HG : Hid (gJAl a b = (dkJ a == dkJ b)) := by show _ = _; rw [hg, hf]; rfl
        rw [hf] at hE
        clear hg hf
        have HB : Hid (Below w.heap.size w w) := Below.refl _ _
        go_enter Tryd.func36, Tryd.ntmps36
        go_wp2_with fail
        refine (sptimes_fr a.x b.y _).mono ?_
        rintro e w1 ho
        rw [HP.out] at ho
        obtain ⟨rfl, hb⟩ : e = .returned (.tuple #[.agg #[.int .i64 p.re, .int .i64 p.im, .int .i64 p.den], .bool true]) ∧ Below _ _ _ := ho.fn
        clear ho
        have HB := Lib.hid (show Below w.heap.size w w1 from HB.out.trans ((show Below _ _ _ from (((Below.refl _ _).alloc (by first | omega | (simp; done) | (simp <;> omega)) _).alloc (by first | omega | (simp; done) | (simp <;> omega)) _)).trans (hb.mono (by first | omega | (simp <;> omega)))))
        have Ha : Hid (w1.rangeAt (w.heap.size) 0 [.int .i64 a.x.re, .int .i64 a.x.im, .int .i64 a.x.den, .int .i64 a.y.re, .int .i64 a.y.im, .int .i64 a.y.den]) := rangeAt_below (World.rangeAt_alloc (rangeAt_new _ _ _) _) hb (by first | omega | (simp; done) | (simp <;> omega))
        have Hb : Hid (w1.rangeAt (w.heap.size + 1) 0 [.int .i64 b.x.re, .int .i64 b.x.im, .int .i64 b.x.den, .int .i64 b.y.re, .int .i64 b.y.im, .int .i64 b.y.den]) := rangeAt_below (rangeAt_nw (by simp)) hb (by first | omega | (simp; done) | (simp <;> omega))
        have hz1 := hb.size
        (try simp at hz1)
        clear hb
        have nA0 : w.heap.size < w1.heap.size := by omega
        have nB0 : ¬ w.heap.size = w1.heap.size := by omega
        have nC0 : ¬ w1.heap.size = w.heap.size := by omega
        have nA1 : w.heap.size + 1 < w1.heap.size := by omega
        have nB1 : ¬ w.heap.size + 1 = w1.heap.size := by omega
        have nC1 : ¬ w1.heap.size = w.heap.size + 1 := by omega
        have za_0 : w1.cell? ⟨w.heap.size, 0, none⟩ = some (.int .i64 a.x.re) := by have := Ha.out 0 _ rfl; rwa [Nat.zero_add] at this
        have za_1 : w1.cell? ⟨w.heap.size, 1, none⟩ = some (.int .i64 a.x.im) := by have := Ha.out 1 _ rfl; rwa [Nat.zero_add] at this
        have za_2 : w1.cell? ⟨w.heap.size, 2, none⟩ = some (.int .i64 a.x.den) := by have := Ha.out 2 _ rfl; rwa [Nat.zero_add] at this
        have za_3 : w1.cell? ⟨w.heap.size, 3, none⟩ = some (.int .i64 a.y.re) := by have := Ha.out 3 _ rfl; rwa [Nat.zero_add] at this
        have za_4 : w1.cell? ⟨w.heap.size, 4, none⟩ = some (.int .i64 a.y.im) := by have := Ha.out 4 _ rfl; rwa [Nat.zero_add] at this
        have za_5 : w1.cell? ⟨w.heap.size, 5, none⟩ = some (.int .i64 a.y.den) := by have := Ha.out 5 _ rfl; rwa [Nat.zero_add] at this
        have zb_0 : w1.cell? ⟨w.heap.size + 1, 0, none⟩ = some (.int .i64 b.x.re) := by have := Hb.out 0 _ rfl; rwa [Nat.zero_add] at this
        have zb_1 : w1.cell? ⟨w.heap.size + 1, 1, none⟩ = some (.int .i64 b.x.im) := by have := Hb.out 1 _ rfl; rwa [Nat.zero_add] at this
        have zb_2 : w1.cell? ⟨w.heap.size + 1, 2, none⟩ = some (.int .i64 b.x.den) := by have := Hb.out 2 _ rfl; rwa [Nat.zero_add] at this
        have zb_3 : w1.cell? ⟨w.heap.size + 1, 3, none⟩ = some (.int .i64 b.y.re) := by have := Hb.out 3 _ rfl; rwa [Nat.zero_add] at this
        have zb_4 : w1.cell? ⟨w.heap.size + 1, 4, none⟩ = some (.int .i64 b.y.im) := by have := Hb.out 4 _ rfl; rwa [Nat.zero_add] at this
        have zb_5 : w1.cell? ⟨w.heap.size + 1, 5, none⟩ = some (.int .i64 b.y.den) := by have := Hb.out 5 _ rfl; rwa [Nat.zero_add] at this
        go_wp2_with fail
        refine (sptimes_fr a.y b.x _).mono ?_
        rintro e w2 ho
        rw [HQ.out] at ho
        obtain ⟨rfl, hb⟩ : e = .returned (.tuple #[.agg #[.int .i64 q.re, .int .i64 q.im, .int .i64 q.den], .bool true]) ∧ Below _ _ _ := ho.fn
        clear ho
        have HB := Lib.hid (show Below w.heap.size w w2 from HB.out.trans ((show Below _ _ _ from ((Below.refl _ _).alloc (by first | omega | (simp; done) | (simp <;> omega)) _)).trans (hb.mono (by first | omega | (simp <;> omega)))))
        have Ha : Hid (w2.rangeAt (w.heap.size) 0 [.int .i64 a.x.re, .int .i64 a.x.im, .int .i64 a.x.den, .int .i64 a.y.re, .int .i64 a.y.im, .int .i64 a.y.den]) := rangeAt_below (World.rangeAt_alloc Ha.out _) hb (by first | omega | (simp; done) | (simp <;> omega))
        have Hb : Hid (w2.rangeAt (w.heap.size + 1) 0 [.int .i64 b.x.re, .int .i64 b.x.im, .int .i64 b.x.den, .int .i64 b.y.re, .int .i64 b.y.im, .int .i64 b.y.den]) := rangeAt_below (World.rangeAt_alloc Hb.out _) hb (by first | omega | (simp; done) | (simp <;> omega))
        have Hbp : Hid (w2.rangeAt (w1.heap.size) 0 [.int .i64 p.re, .int .i64 p.im, .int .i64 p.den]) := rangeAt_below (rangeAt_new _ _ _) hb (by first | omega | (simp; done) | (simp <;> omega))
        have hz2 := hb.size
        (try simp at hz2)
        clear hb
        have nA0 : w.heap.size < w2.heap.size := by omega
        have nB0 : ¬ w.heap.size = w2.heap.size := by omega
        have nC0 : ¬ w2.heap.size = w.heap.size := by omega
        have nA1 : w.heap.size + 1 < w2.heap.size := by omega
        have nB1 : ¬ w.heap.size + 1 = w2.heap.size := by omega
        have nC1 : ¬ w2.heap.size = w.heap.size + 1 := by omega
        have nA2 : w1.heap.size < w2.heap.size := by omega
        have nB2 : ¬ w1.heap.size = w2.heap.size := by omega
        have nC2 : ¬ w2.heap.size = w1.heap.size := by omega
        go_wp2_with fail
        refine wp_region_held_drew (S := (fun w' => (w'.cell? ⟨w.heap.size, 0, none⟩ = some (.int .i64 a.x.re) ∧ w'.cell? ⟨w.heap.size, 1, none⟩ = some (.int .i64 a.x.im) ∧ w'.cell? ⟨w.heap.size, 2, none⟩ = some (.int .i64 a.x.den) ∧ w'.cell? ⟨w.heap.size, 3, none⟩ = some (.int .i64 a.y.re) ∧ w'.cell? ⟨w.heap.size, 4, none⟩ = some (.int .i64 a.y.im) ∧ w'.cell? ⟨w.heap.size, 5, none⟩ = some (.int .i64 a.y.den)) ∧ (w'.cell? ⟨w.heap.size + 1, 0, none⟩ = some (.int .i64 b.x.re) ∧ w'.cell? ⟨w.heap.size + 1, 1, none⟩ = some (.int .i64 b.x.im) ∧ w'.cell? ⟨w.heap.size + 1, 2, none⟩ = some (.int .i64 b.x.den) ∧ w'.cell? ⟨w.heap.size + 1, 3, none⟩ = some (.int .i64 b.y.re) ∧ w'.cell? ⟨w.heap.size + 1, 4, none⟩ = some (.int .i64 b.y.im) ∧ w'.cell? ⟨w.heap.size + 1, 5, none⟩ = some (.int .i64 b.y.den)) ∧ (w'.cell? ⟨w1.heap.size, 0, none⟩ = some (.int .i64 p.re) ∧ w'.cell? ⟨w1.heap.size, 1, none⟩ = some (.int .i64 p.im) ∧ w'.cell? ⟨w1.heap.size, 2, none⟩ = some (.int .i64 p.den)) ∧ (w'.cell? ⟨w2.heap.size, 0, none⟩ = some (.int .i64 q.re) ∧ w'.cell? ⟨w2.heap.size, 1, none⟩ = some (.int .i64 q.im) ∧ w'.cell? ⟨w2.heap.size, 2, none⟩ = some (.int .i64 q.den)))) (by kernel_rfl) (show _ from ⟨(cellsJ (show World.rangeAt (World.drew (w2.alloc (.cells #[.int .i64 q.re, .int .i64 q.im, .int .i64 q.den] 23))) (w.heap.size) 0 [.int .i64 a.x.re, .int .i64 a.x.im, .int .i64 a.x.den, .int .i64 a.y.re, .int .i64 a.y.im, .int .i64 a.y.den] from (World.rangeAt_alloc Ha.out _))), (cellsJ (show World.rangeAt (World.drew (w2.alloc (.cells #[.int .i64 q.re, .int .i64 q.im, .int .i64 q.den] 23))) (w.heap.size + 1) 0 [.int .i64 b.x.re, .int .i64 b.x.im, .int .i64 b.x.den, .int .i64 b.y.re, .int .i64 b.y.im, .int .i64 b.y.den] from (World.rangeAt_alloc Hb.out _))), (cellsF (show World.rangeAt (World.drew (w2.alloc (.cells #[.int .i64 q.re, .int .i64 q.im, .int .i64 q.den] 23))) (w1.heap.size) 0 [.int .i64 p.re, .int .i64 p.im, .int .i64 p.den] from (World.rangeAt_alloc Hbp.out _))), (cellsF (show World.rangeAt (World.drew (w2.alloc (.cells #[.int .i64 q.re, .int .i64 q.im, .int .i64 q.den] 23))) (w2.heap.size) 0 [.int .i64 q.re, .int .i64 q.im, .int .i64 q.den] from (rangeAt_new _ _ _)))⟩) (fun hHeld => ?_)
        refine wpAnyH_take (i := 0) (v := ?_) rfl (by kernel_rfl) (by kernel_rfl) (by kernel_rfl) (fun _ _ _ h => h) (Or.inl ⟨by rfl, ?_⟩) (by assumption) ?_
        rotate_left
        (focus (intro w hSw; (try dsimp only at hSw); go_simp; (try with_reducible rfl)))
        (try simp only [Act.put, List.getElem_toArray, List.getElem_cons_zero, List.setIfInBounds_toArray, List.set_cons_zero, List.set_cons_succ])
        refine wpAnyH_take (i := 1) (v := ?_) rfl (by kernel_rfl) (by kernel_rfl) (by kernel_rfl) (fun _ _ _ h => h) (Or.inl ⟨by rfl, ?_⟩) (by assumption) ?_
        rotate_left
        (focus (intro w hSw; (try dsimp only at hSw); go_simp; (try with_reducible rfl)))
        (try simp only [Act.put, List.getElem_toArray, List.getElem_cons_succ, List.getElem_cons_zero, List.setIfInBounds_toArray, List.set_cons_zero, List.set_cons_succ])
        refine wpAnyH_take (i := 2) (v := ?_) rfl (by kernel_rfl) (by kernel_rfl) (by kernel_rfl) (fun _ _ _ h => h) (Or.inl ⟨by rfl, ?_⟩) (by assumption) ?_
        rotate_left
        (focus (intro w hSw; (try dsimp only at hSw); go_simp; (try with_reducible rfl)))
        (try simp only [Act.put, List.getElem_toArray, List.getElem_cons_succ, List.getElem_cons_zero, List.setIfInBounds_toArray, List.set_cons_zero, List.set_cons_succ])
        refine wpAnyH_take (i := 3) (v := ?_) rfl (by kernel_rfl) (by kernel_rfl) (by kernel_rfl) (fun _ _ _ h => h) (Or.inl ⟨by rfl, ?_⟩) (by assumption) ?_
        rotate_left
        (focus (intro w hSw; (try dsimp only at hSw); go_simp; (try with_reducible rfl)))
        (try simp only [Act.put, List.getElem_toArray, List.getElem_cons_succ, List.getElem_cons_zero, List.setIfInBounds_toArray, List.set_cons_zero, List.set_cons_succ])
        refine wpAnyH_take (i := 4) (v := ?_) rfl (by kernel_rfl) (by kernel_rfl) (by kernel_rfl) (fun _ _ _ h => h) (Or.inl ⟨by rfl, ?_⟩) (by assumption) ?_
        rotate_left
        (focus (intro w hSw; (try dsimp only at hSw); go_simp; (try with_reducible rfl)))
        (try simp only [Act.put, List.getElem_toArray, List.getElem_cons_succ, List.getElem_cons_zero, List.setIfInBounds_toArray, List.set_cons_zero, List.set_cons_succ])
        refine wpAnyH_take (i := 5) (v := ?_) rfl (by kernel_rfl) (by kernel_rfl) (by kernel_rfl) (fun _ _ _ h => h) (Or.inl ⟨by rfl, ?_⟩) (by assumption) ?_
        rotate_left
        (focus (intro w hSw; (try dsimp only at hSw); go_simp; (try with_reducible rfl)))
        (try simp only [Act.put, List.getElem_toArray, List.getElem_cons_succ, List.getElem_cons_zero, List.setIfInBounds_toArray, List.set_cons_zero, List.set_cons_succ])
        refine wpAnyH_ready (rs := [6]) (by kernel_rfl) (by simp) ?_
        refine AllReadyH.cons rfl (fun K hK => ?_) AllReadyH.nil
        go_simp
        go_at_call 92
        (with_reducible refine (sjv_any a _).mono ?_)
        rintro e w3 ho
        rw [hva] at ho
        obtain ⟨rfl, hb⟩ : e = .returned (.bool true) ∧ Below _ _ _ := (id ho)
        clear ho
        have HB := Lib.hid (show Below w.heap.size w w3 from HB.out.trans ((show Below _ _ _ from (((Below.refl _ _).alloc (by first | omega | (simp; done) | (simp <;> omega)) _).drew)).trans (hb.mono (by first | omega | (simp <;> omega)))))
        have Ha : Hid (w3.rangeAt (w.heap.size) 0 [.int .i64 a.x.re, .int .i64 a.x.im, .int .i64 a.x.den, .int .i64 a.y.re, .int .i64 a.y.im, .int .i64 a.y.den]) := rangeAt_below (show World.rangeAt (World.drew (w2.alloc (.cells #[.int .i64 q.re, .int .i64 q.im, .int .i64 q.den] 23))) (w.heap.size) 0 [.int .i64 a.x.re, .int .i64 a.x.im, .int .i64 a.x.den, .int .i64 a.y.re, .int .i64 a.y.im, .int .i64 a.y.den] from (World.rangeAt_alloc Ha.out _)) hb (by first | omega | (simp; done) | (simp <;> omega))
        have Hb : Hid (w3.rangeAt (w.heap.size + 1) 0 [.int .i64 b.x.re, .int .i64 b.x.im, .int .i64 b.x.den, .int .i64 b.y.re, .int .i64 b.y.im, .int .i64 b.y.den]) := rangeAt_below (show World.rangeAt (World.drew (w2.alloc (.cells #[.int .i64 q.re, .int .i64 q.im, .int .i64 q.den] 23))) (w.heap.size + 1) 0 [.int .i64 b.x.re, .int .i64 b.x.im, .int .i64 b.x.den, .int .i64 b.y.re, .int .i64 b.y.im, .int .i64 b.y.den] from (World.rangeAt_alloc Hb.out _)) hb (by first | omega | (simp; done) | (simp <;> omega))
        have Hbp : Hid (w3.rangeAt (w1.heap.size) 0 [.int .i64 p.re, .int .i64 p.im, .int .i64 p.den]) := rangeAt_below (show World.rangeAt (World.drew (w2.alloc (.cells #[.int .i64 q.re, .int .i64 q.im, .int .i64 q.den] 23))) (w1.heap.size) 0 [.int .i64 p.re, .int .i64 p.im, .int .i64 p.den] from (World.rangeAt_alloc Hbp.out _)) hb (by first | omega | (simp; done) | (simp <;> omega))
        have Hbq : Hid (w3.rangeAt (w2.heap.size) 0 [.int .i64 q.re, .int .i64 q.im, .int .i64 q.den]) := rangeAt_below (show World.rangeAt (World.drew (w2.alloc (.cells #[.int .i64 q.re, .int .i64 q.im, .int .i64 q.den] 23))) (w2.heap.size) 0 [.int .i64 q.re, .int .i64 q.im, .int .i64 q.den] from (rangeAt_new _ _ _)) hb (by first | omega | (simp; done) | (simp <;> omega))
        have hz3 := hb.size
        (try simp at hz3)
        clear hb
        have nA0 : w.heap.size < w3.heap.size := by omega
        have nB0 : ¬ w.heap.size = w3.heap.size := by omega
        have nC0 : ¬ w3.heap.size = w.heap.size := by omega
        have nA1 : w.heap.size + 1 < w3.heap.size := by omega
        have nB1 : ¬ w.heap.size + 1 = w3.heap.size := by omega
        have nC1 : ¬ w3.heap.size = w.heap.size + 1 := by omega
        have nA2 : w1.heap.size < w3.heap.size := by omega
        have nB2 : ¬ w1.heap.size = w3.heap.size := by omega
        have nC2 : ¬ w3.heap.size = w1.heap.size := by omega
        have nA3 : w2.heap.size < w3.heap.size := by omega
        have nB3 : ¬ w2.heap.size = w3.heap.size := by omega
        have nC3 : ¬ w3.heap.size = w2.heap.size := by omega
        refine hK.out _ _ (show _ from ⟨(cellsJ Ha.out), (cellsJ Hb.out), (cellsF Hbp.out), (cellsF Hbq.out)⟩) (fun hHeld => ?_)
        clear hK K
        (try simp only [Act.put, List.getElem_toArray, List.getElem_cons_succ, List.getElem_cons_zero, List.setIfInBounds_toArray, List.set_cons_zero, List.set_cons_succ])
        refine wpAnyH_take (i := 7) (v := ?_) rfl (by kernel_rfl) (by kernel_rfl) (by kernel_rfl) (fun _ _ _ h => h) (Or.inl ⟨by rfl, ?_⟩) (by assumption) ?_
        rotate_left
        (focus (intro w hSw; (try dsimp only at hSw); go_simp; (try with_reducible rfl)))
        (try simp only [Act.put, List.getElem_toArray, List.getElem_cons_succ, List.getElem_cons_zero, List.setIfInBounds_toArray, List.set_cons_zero, List.set_cons_succ])
        refine wpAnyH_take (i := 8) (v := ?_) rfl (by kernel_rfl) (by kernel_rfl) (by kernel_rfl) (fun _ _ _ h => h) (Or.inl ⟨by rfl, ?_⟩) (by assumption) ?_
        rotate_left
        (focus (intro w hSw; (try dsimp only at hSw); go_simp; (try with_reducible rfl)))
        (try simp only [Act.put, List.getElem_toArray, List.getElem_cons_succ, List.getElem_cons_zero, List.setIfInBounds_toArray, List.set_cons_zero, List.set_cons_succ])
        refine wpAnyH_take (i := 9) (v := ?_) rfl (by kernel_rfl) (by kernel_rfl) (by kernel_rfl) (fun _ _ _ h => h) (Or.inl ⟨by rfl, ?_⟩) (by assumption) ?_
        rotate_left
        (focus (intro w hSw; (try dsimp only at hSw); go_simp; (try with_reducible rfl)))
        (try simp only [Act.put, List.getElem_toArray, List.getElem_cons_succ, List.getElem_cons_zero, List.setIfInBounds_toArray, List.set_cons_zero, List.set_cons_succ])
        refine wpAnyH_ready (rs := [10]) (by kernel_rfl) (by simp) ?_
        refine AllReadyH.cons rfl (fun K hK => ?_) AllReadyH.nil
        go_simp
        go_at_call 92
        (with_reducible refine (sjv_any b _).mono ?_)
        rintro e w4 ho
        rw [hvb] at ho
        obtain ⟨rfl, hb⟩ : e = .returned (.bool true) ∧ Below _ _ _ := (id ho)
        clear ho
        have HB := Lib.hid (show Below w.heap.size w w4 from HB.out.trans ((show Below _ _ _ from (Below.refl _ _)).trans (hb.mono (by first | omega | (simp <;> omega)))))
        have Ha : Hid (w4.rangeAt (w.heap.size) 0 [.int .i64 a.x.re, .int .i64 a.x.im, .int .i64 a.x.den, .int .i64 a.y.re, .int .i64 a.y.im, .int .i64 a.y.den]) := rangeAt_below Ha.out hb (by first | omega | (simp; done) | (simp <;> omega))
        have Hb : Hid (w4.rangeAt (w.heap.size + 1) 0 [.int .i64 b.x.re, .int .i64 b.x.im, .int .i64 b.x.den, .int .i64 b.y.re, .int .i64 b.y.im, .int .i64 b.y.den]) := rangeAt_below Hb.out hb (by first | omega | (simp; done) | (simp <;> omega))
        have Hbp : Hid (w4.rangeAt (w1.heap.size) 0 [.int .i64 p.re, .int .i64 p.im, .int .i64 p.den]) := rangeAt_below Hbp.out hb (by first | omega | (simp; done) | (simp <;> omega))
        have Hbq : Hid (w4.rangeAt (w2.heap.size) 0 [.int .i64 q.re, .int .i64 q.im, .int .i64 q.den]) := rangeAt_below Hbq.out hb (by first | omega | (simp; done) | (simp <;> omega))
        have hz4 := hb.size
        (try simp at hz4)
        clear hb
        have nA0 : w.heap.size < w4.heap.size := by omega
        have nB0 : ¬ w.heap.size = w4.heap.size := by omega
        have nC0 : ¬ w4.heap.size = w.heap.size := by omega
        have nA1 : w.heap.size + 1 < w4.heap.size := by omega
        have nB1 : ¬ w.heap.size + 1 = w4.heap.size := by omega
        have nC1 : ¬ w4.heap.size = w.heap.size + 1 := by omega
        have nA2 : w1.heap.size < w4.heap.size := by omega
        have nB2 : ¬ w1.heap.size = w4.heap.size := by omega
        have nC2 : ¬ w4.heap.size = w1.heap.size := by omega
        have nA3 : w2.heap.size < w4.heap.size := by omega
        have nB3 : ¬ w2.heap.size = w4.heap.size := by omega
        have nC3 : ¬ w4.heap.size = w2.heap.size := by omega
        refine hK.out _ _ (show _ from ⟨(cellsJ Ha.out), (cellsJ Hb.out), (cellsF Hbp.out), (cellsF Hbq.out)⟩) (fun hHeld => ?_)
        clear hK K
        (try simp only [Act.put, List.getElem_toArray, List.getElem_cons_succ, List.getElem_cons_zero, List.setIfInBounds_toArray, List.set_cons_zero, List.set_cons_succ])
        refine wpAnyH_take (i := 11) (v := ?_) rfl (by kernel_rfl) (by kernel_rfl) (by kernel_rfl) (fun _ _ _ h => h) (Or.inl ⟨by rfl, ?_⟩) (by assumption) ?_
        rotate_left
        (focus (intro w hSw; (try dsimp only at hSw); go_simp; (try with_reducible rfl)))
        (try simp only [Act.put, List.getElem_toArray, List.getElem_cons_succ, List.getElem_cons_zero, List.setIfInBounds_toArray, List.set_cons_zero, List.set_cons_succ])
        refine wpAnyH_take (i := 12) (v := ?_) rfl (by kernel_rfl) (by kernel_rfl) (by kernel_rfl) (fun _ _ _ h => h) (Or.inl ⟨by rfl, ?_⟩) (by assumption) ?_
        rotate_left
        (focus (intro w hSw; (try dsimp only at hSw); go_simp; (try with_reducible rfl)))
        (try simp only [Act.put, List.getElem_toArray, List.getElem_cons_succ, List.getElem_cons_zero, List.setIfInBounds_toArray, List.set_cons_zero, List.set_cons_succ])
        refine wpAnyH_take (i := 13) (v := ?_) rfl (by kernel_rfl) (by kernel_rfl) (by kernel_rfl) (fun _ _ _ h => h) (Or.inl ⟨by rfl, ?_⟩) (by assumption) ?_
        rotate_left
        (focus (intro w hSw; (try dsimp only at hSw); go_simp; (try with_reducible rfl)))
        (try simp only [Act.put, List.getElem_toArray, List.getElem_cons_succ, List.getElem_cons_zero, List.setIfInBounds_toArray, List.set_cons_zero, List.set_cons_succ])
        refine wpAnyH_take (i := 14) (v := ?_) rfl (by kernel_rfl) (by kernel_rfl) (by kernel_rfl) (fun _ _ _ h => h) (Or.inl ⟨by rfl, ?_⟩) (by assumption) ?_
        rotate_left
        (focus (intro w hSw; (try dsimp only at hSw); go_simp; (try with_reducible rfl)))
        (try simp only [Act.put, List.getElem_toArray, List.getElem_cons_succ, List.getElem_cons_zero, List.setIfInBounds_toArray, List.set_cons_zero, List.set_cons_succ])
        refine wpAnyH_take (i := 15) (v := ?_) rfl (by kernel_rfl) (by kernel_rfl) (by kernel_rfl) (fun _ _ _ h => h) (Or.inl ⟨by rfl, ?_⟩) (by assumption) ?_
        rotate_left
        (focus (intro w hSw; (try dsimp only at hSw); go_simp; (try with_reducible rfl)))
        (try simp only [Act.put, List.getElem_toArray, List.getElem_cons_succ, List.getElem_cons_zero, List.setIfInBounds_toArray, List.set_cons_zero, List.set_cons_succ])
        refine wpAnyH_take (i := 16) (v := ?_) rfl (by kernel_rfl) (by kernel_rfl) (by kernel_rfl) (fun _ _ _ h => h) (Or.inl ⟨by rfl, ?_⟩) (by assumption) ?_
        rotate_left
        (focus (intro w hSw; (try dsimp only at hSw); go_simp; (try with_reducible rfl)))
        (try simp only [Act.put, List.getElem_toArray, List.getElem_cons_succ, List.getElem_cons_zero, List.setIfInBounds_toArray, List.set_cons_zero, List.set_cons_succ])
        refine wpAnyH_take (i := 17) (v := ?_) rfl (by kernel_rfl) (by kernel_rfl) (by kernel_rfl) (fun _ _ _ h => h) (Or.inl ⟨by rfl, ?_⟩) (by assumption) ?_
        rotate_left
        (focus (intro w hSw; (try dsimp only at hSw); go_simp; (try with_reducible rfl)))
        (try simp only [Act.put, List.getElem_toArray, List.getElem_cons_succ, List.getElem_cons_zero, List.setIfInBounds_toArray, List.set_cons_zero, List.set_cons_succ])
        refine wpAnyH_take (i := 18) (v := ?_) rfl (by kernel_rfl) (by kernel_rfl) (by kernel_rfl) (fun _ _ _ h => h) (Or.inl ⟨by rfl, ?_⟩) (by assumption) ?_
        rotate_left
        (focus (intro w hSw; (try dsimp only at hSw); go_simp; (try with_reducible rfl)))
        (try simp only [Act.put, List.getElem_toArray, List.getElem_cons_succ, List.getElem_cons_zero, List.setIfInBounds_toArray, List.set_cons_zero, List.set_cons_succ])
        refine wpAnyH_take (i := 20) (v := ?_) rfl (by kernel_rfl) (by kernel_rfl) (by kernel_rfl) (fun _ _ _ h => h) (Or.inl ⟨by rfl, ?_⟩) (by assumption) ?_
        rotate_left
        (focus (intro w hSw; (try dsimp only at hSw); go_simp; (try with_reducible rfl)))
        (try simp only [Act.put, List.getElem_toArray, List.getElem_cons_succ, List.getElem_cons_zero, List.setIfInBounds_toArray, List.set_cons_zero, List.set_cons_succ])
        refine wpAnyH_ready (rs := [19]) (by kernel_rfl) (by simp) ?_
        refine AllReadyH.cons rfl (fun K hK => ?_) AllReadyH.nil
        go_simp
        go_at_call 93
        (with_reducible refine (sdk_any a _).mono ?_)
        rintro e w5 ho
        obtain ⟨rfl, hb⟩ : e = .returned (.bool (dkJ a)) ∧ Below _ _ _ := (id ho)
        clear ho
        have HB := Lib.hid (show Below w.heap.size w w5 from HB.out.trans ((show Below _ _ _ from (Below.refl _ _)).trans (hb.mono (by first | omega | (simp <;> omega)))))
        have Ha : Hid (w5.rangeAt (w.heap.size) 0 [.int .i64 a.x.re, .int .i64 a.x.im, .int .i64 a.x.den, .int .i64 a.y.re, .int .i64 a.y.im, .int .i64 a.y.den]) := rangeAt_below Ha.out hb (by first | omega | (simp; done) | (simp <;> omega))
        have Hb : Hid (w5.rangeAt (w.heap.size + 1) 0 [.int .i64 b.x.re, .int .i64 b.x.im, .int .i64 b.x.den, .int .i64 b.y.re, .int .i64 b.y.im, .int .i64 b.y.den]) := rangeAt_below Hb.out hb (by first | omega | (simp; done) | (simp <;> omega))
        have Hbp : Hid (w5.rangeAt (w1.heap.size) 0 [.int .i64 p.re, .int .i64 p.im, .int .i64 p.den]) := rangeAt_below Hbp.out hb (by first | omega | (simp; done) | (simp <;> omega))
        have Hbq : Hid (w5.rangeAt (w2.heap.size) 0 [.int .i64 q.re, .int .i64 q.im, .int .i64 q.den]) := rangeAt_below Hbq.out hb (by first | omega | (simp; done) | (simp <;> omega))
        have hz5 := hb.size
        (try simp at hz5)
        clear hb
        have nA0 : w.heap.size < w5.heap.size := by omega
        have nB0 : ¬ w.heap.size = w5.heap.size := by omega
        have nC0 : ¬ w5.heap.size = w.heap.size := by omega
        have nA1 : w.heap.size + 1 < w5.heap.size := by omega
        have nB1 : ¬ w.heap.size + 1 = w5.heap.size := by omega
        have nC1 : ¬ w5.heap.size = w.heap.size + 1 := by omega
        have nA2 : w1.heap.size < w5.heap.size := by omega
        have nB2 : ¬ w1.heap.size = w5.heap.size := by omega
        have nC2 : ¬ w5.heap.size = w1.heap.size := by omega
        have nA3 : w2.heap.size < w5.heap.size := by omega
        have nB3 : ¬ w2.heap.size = w5.heap.size := by omega
        have nC3 : ¬ w5.heap.size = w2.heap.size := by omega
        refine hK.out _ _ (show _ from ⟨(cellsJ Ha.out), (cellsJ Hb.out), (cellsF Hbp.out), (cellsF Hbq.out)⟩) (fun hHeld => ?_)
        clear hK K
        (try simp only [Act.put, List.getElem_toArray, List.getElem_cons_succ, List.getElem_cons_zero, List.setIfInBounds_toArray, List.set_cons_zero, List.set_cons_succ])
        refine wpAnyH_ready (rs := [21]) (by kernel_rfl) (by simp) ?_
        refine AllReadyH.cons rfl (fun K hK => ?_) AllReadyH.nil
        go_simp
        go_at_call 93
        (with_reducible refine (sdk_any b _).mono ?_)
        rintro e w6 ho
        obtain ⟨rfl, hb⟩ : e = .returned (.bool (dkJ b)) ∧ Below _ _ _ := (id ho)
        clear ho
        have HB := Lib.hid (show Below w.heap.size w w6 from HB.out.trans ((show Below _ _ _ from (Below.refl _ _)).trans (hb.mono (by first | omega | (simp <;> omega)))))
        have Ha : Hid (w6.rangeAt (w.heap.size) 0 [.int .i64 a.x.re, .int .i64 a.x.im, .int .i64 a.x.den, .int .i64 a.y.re, .int .i64 a.y.im, .int .i64 a.y.den]) := rangeAt_below Ha.out hb (by first | omega | (simp; done) | (simp <;> omega))
        have Hb : Hid (w6.rangeAt (w.heap.size + 1) 0 [.int .i64 b.x.re, .int .i64 b.x.im, .int .i64 b.x.den, .int .i64 b.y.re, .int .i64 b.y.im, .int .i64 b.y.den]) := rangeAt_below Hb.out hb (by first | omega | (simp; done) | (simp <;> omega))
        have Hbp : Hid (w6.rangeAt (w1.heap.size) 0 [.int .i64 p.re, .int .i64 p.im, .int .i64 p.den]) := rangeAt_below Hbp.out hb (by first | omega | (simp; done) | (simp <;> omega))
        have Hbq : Hid (w6.rangeAt (w2.heap.size) 0 [.int .i64 q.re, .int .i64 q.im, .int .i64 q.den]) := rangeAt_below Hbq.out hb (by first | omega | (simp; done) | (simp <;> omega))
        have hz6 := hb.size
        (try simp at hz6)
        clear hb
        have nA0 : w.heap.size < w6.heap.size := by omega
        have nB0 : ¬ w.heap.size = w6.heap.size := by omega
        have nC0 : ¬ w6.heap.size = w.heap.size := by omega
        have nA1 : w.heap.size + 1 < w6.heap.size := by omega
        have nB1 : ¬ w.heap.size + 1 = w6.heap.size := by omega
        have nC1 : ¬ w6.heap.size = w.heap.size + 1 := by omega
        have nA2 : w1.heap.size < w6.heap.size := by omega
        have nB2 : ¬ w1.heap.size = w6.heap.size := by omega
        have nC2 : ¬ w6.heap.size = w1.heap.size := by omega
        have nA3 : w2.heap.size < w6.heap.size := by omega
        have nB3 : ¬ w2.heap.size = w6.heap.size := by omega
        have nC3 : ¬ w6.heap.size = w2.heap.size := by omega
        refine hK.out _ _ (show _ from ⟨(cellsJ Ha.out), (cellsJ Hb.out), (cellsF Hbp.out), (cellsF Hbq.out)⟩) (fun hHeld => ?_)
        clear hK K
        (try simp only [Act.put, List.getElem_toArray, List.getElem_cons_succ, List.getElem_cons_zero, List.setIfInBounds_toArray, List.set_cons_zero, List.set_cons_succ])
        refine wpAnyH_take (i := 22) (v := ?_) rfl (by kernel_rfl) (by kernel_rfl) (by kernel_rfl) (fun _ _ _ h => h) (Or.inl ⟨by rfl, ?_⟩) (by assumption) ?_
        rotate_left
        (focus (intro w hSw; (try dsimp only at hSw); go_simp; (try with_reducible rfl)))
        (try simp only [Act.put, List.getElem_toArray, List.getElem_cons_succ, List.getElem_cons_zero, List.setIfInBounds_toArray, List.set_cons_zero, List.set_cons_succ])
        refine wpAnyH_take (i := 23) (v := ?_) rfl (by kernel_rfl) (by kernel_rfl) (by kernel_rfl) (fun _ _ _ h => h) (Or.inl ⟨by rfl, ?_⟩) (by assumption) ?_
        rotate_left
        (focus (intro w hSw; (try dsimp only at hSw); go_simp; (try with_reducible rfl)))
        (try simp only [Act.put, List.getElem_toArray, List.getElem_cons_succ, List.getElem_cons_zero, List.setIfInBounds_toArray, List.set_cons_zero, List.set_cons_succ])
        refine wpAnyH_take (i := 24) (v := ?_) rfl (by kernel_rfl) (by kernel_rfl) (by kernel_rfl) (fun _ _ _ h => h) (Or.inl ⟨by rfl, ?_⟩) (by assumption) ?_
        rotate_left
        (focus (intro w hSw; (try dsimp only at hSw); go_simp; (try with_reducible rfl)))
        (try simp only [Act.put, List.getElem_toArray, List.getElem_cons_succ, List.getElem_cons_zero, List.setIfInBounds_toArray, List.set_cons_zero, List.set_cons_succ])
        refine wpAnyH_done (by kernel_rfl) ?_ _
        clear hHeld
        go_wp2_with fail
        go_ret
        exact ⟨by rw [HG.out]; rfl, (by (repeat' first | (with_reducible exact HB.out) | with_reducible refine setCells_below _ _ _ ?_ (by first | omega | (simp <;> omega)) | with_reducible refine Below.setCell ?_ (by show _ ≤ _; first | omega | (simp <;> omega) | simp) _ | with_reducible refine Below.alloc ?_ (by first | omega | (simp <;> omega)) _ | with_reducible apply Below.drew | with_reducible refine below_drewN ?_ _))⟩
end Go.Proofs.YtmcokdiopcpifaaDoor
