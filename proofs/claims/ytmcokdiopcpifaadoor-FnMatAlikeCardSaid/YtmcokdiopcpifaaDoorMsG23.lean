/- What a reckoning keeps on its way where no result has a room: its own Bool in block P, and boxes of fractions below B. -/
import Derived.Test.YtmcokdiopcpifaaDoorMsG10
import Derived.Test.YtmcokdiopcpifaaDoorMsG12
import Derived.Test.YtmcokdiopcpifaaDoorMsG18
import Derived.Test.YtmcokdiopcpifaaDoorMsG20
import Derived.Test.YtmcokdiopcpifaaDoorMsN
import Derived.BigQuiet
set_option maxRecDepth 100000
namespace Go.Proofs.YtmcokdiopcpifaaDoor
open Go.RowKit Pol
structure CN (w : World) (P : Nat) (v : Bool) (B : Nat) (L : List (Nat × Nat × (Nat → Fr))) (W : World) : Prop where
  below : Below w.heap.size w W
  lo : w.heap.size ≤ P
  hP : P < B
  hB : B ≤ W.heap.size
  cell : W.cell? ⟨P, 0, none⟩ = some (.bool v)
  free : W.frozen? ⟨P, 0, none⟩ = false
  box : ∀ e ∈ L, e.1 < B ∧ e.1 ≠ P ∧ BoxAt W e.1 e.2.2 e.2.1
section
variable {w W W' : World} {P B : Nat} {v u : Bool} {L : List (Nat × Nat × (Nat → Fr))}
theorem CN.next (K : CN w P v B L W) (hb : Below W.heap.size W W') : CN w P v B L W' :=
  have h1 := K.hP
  have h2 := K.hB
  ⟨K.below.trans (hb.mono K.below.size), K.lo, K.hP, Nat.le_trans K.hB hb.size, (hb.cell (p := ⟨P, 0, none⟩) (by show P < _; omega)).trans K.cell, (hb.frozen (p := ⟨P, 0, none⟩) (by show P < _; omega)).trans K.free, fun e he => by
    obtain ⟨k1, k2, k3⟩ := K.box e he
    exact ⟨k1, k2, k3.below hb (by omega)⟩⟩
theorem CN.alloc (K : CN w P v B L W) (o : Obj) : CN w P v B L (W.alloc o) := K.next ((Below.refl _ _).alloc (Nat.le_refl _) o)
theorem CN.drew (K : CN w P v B L W) : CN w P v B L W.drew := K.next (Below.refl _ _).drew
theorem CN.sm (K : CN w P v B L W) (hs : Sm P u W W') : CN w P u B L W' :=
  have h1 := K.hP
  have h2 := K.hB
  ⟨hs.own K.below K.lo, K.lo, K.hP, Nat.le_trans K.hB hs.size, hs.cell, hs.free, fun e he => by
    obtain ⟨k1, k2, k3⟩ := K.box e he
    exact ⟨k1, k2, k3.sm hs (by omega) k2⟩⟩
theorem CN.set (K : CN w P v B L W) {D o : Nat} (hD : B ≤ D) (x : Value) : CN w P v B L (W.setCell ⟨D, o, none⟩ x) :=
  have h1 := K.hP
  have h2 := K.lo
  ⟨K.below.setCell (by show _ ≤ D; omega) _, K.lo, K.hP, by rw [World.size_setCell]; exact K.hB, (World.cell?_setCell_far _ _ _ _ (by show D ≠ P; omega)).trans K.cell, by rw [World.frozen?_setCell]; exact K.free, fun e he => by
    obtain ⟨k1, k2, k3⟩ := K.box e he
    exact ⟨k1, k2, k3.far (by omega)⟩⟩
theorem CN.more2 (K : CN w P v B L W) {X Y n m : Nat} {g h : Nat → Fr} (hX : B ≤ X) (hX2 : X < W.heap.size) (hb : BoxAt W X g n) (hY : B ≤ Y) (hY2 : Y < W.heap.size) (hc : BoxAt W Y h m) : CN w P v W.heap.size ((X, n, g) :: (Y, m, h) :: L) W :=
  have h1 := K.hP
  have h3 := K.hB
  ⟨K.below, K.lo, by omega, Nat.le_refl _, K.cell, K.free, fun e he => by
    rcases List.mem_cons.1 he with rfl | he
    · exact ⟨hX2, by show X ≠ P; omega, hb⟩
    rcases List.mem_cons.1 he with rfl | he
    · exact ⟨hY2, by show Y ≠ P; omega, hc⟩
    · obtain ⟨k1, k2, k3⟩ := K.box e he
      exact ⟨by omega, k2, k3⟩⟩
end
theorem CN.jj {w W : World} {P B : Nat} {v : Bool} {L : List (Nat × Nat × (Nat → Fr))} {A C : Nat} {a b : J2} (hm : (A, 2, j2k a) ∈ L) (hn : (C, 2, j2k b) ∈ L) (K : CN w P v B L W) : (W.cell? ⟨A, 0, none⟩ = some (.int .i64 a.x.re) ∧ W.cell? ⟨A, 1, none⟩ = some (.int .i64 a.x.im) ∧ W.cell? ⟨A, 2, none⟩ = some (.int .i64 a.x.den) ∧ W.cell? ⟨A, 3, none⟩ = some (.int .i64 a.y.re) ∧ W.cell? ⟨A, 4, none⟩ = some (.int .i64 a.y.im) ∧ W.cell? ⟨A, 5, none⟩ = some (.int .i64 a.y.den)) ∧ (W.cell? ⟨C, 0, none⟩ = some (.int .i64 b.x.re) ∧ W.cell? ⟨C, 1, none⟩ = some (.int .i64 b.x.im) ∧ W.cell? ⟨C, 2, none⟩ = some (.int .i64 b.x.den) ∧ W.cell? ⟨C, 3, none⟩ = some (.int .i64 b.y.re) ∧ W.cell? ⟨C, 4, none⟩ = some (.int .i64 b.y.im) ∧ W.cell? ⟨C, 5, none⟩ = some (.int .i64 b.y.den)) := ⟨(K.box _ hm).2.2.j6, (K.box _ hn).2.2.j6⟩
theorem cn_call {w W : World} {P B : Nat} {v : Bool} {L : List (Nat × Nat × (Nat → Fr))} {f : Nat} {args : Array Value} {g : Fr × Bool} (K : CN w P v B L W) (c : P < W.heap.size → W.cell? ⟨P, 0, none⟩ = some (.bool v) → W.frozen? ⟨P, 0, none⟩ = false → Calls Tryd.prog f args W (SmOut P v g W)) :
    Calls Tryd.prog f args W (fun e w' => e = .returned (.agg #[.int .i64 g.1.re, .int .i64 g.1.im, .int .i64 g.1.den]) ∧ Sm P (v || !g.2) W w' ∧ CN w P (v || !g.2) B L w') :=
  (c (Nat.lt_of_lt_of_le K.hP K.hB) K.cell K.free).mono fun _ _ h => ⟨h.fn.1, h.fn.2, K.sm h.fn.2⟩
end Go.Proofs.YtmcokdiopcpifaaDoor
namespace Go.Proofs.YtmcokdiopcpifaaDoor
open Go.RowKit Pol
theorem gJAl_bad1 {a b : J2} (h : (fTimes a.x b.y).2 = false) : gJAl a b = false := by unfold gJAl; rw [h]; simp
theorem gJAl_bad2 {a b : J2} (h : (fTimes a.y b.x).2 = false) : gJAl a b = false := by unfold gJAl; rw [h]; simp
theorem gJAl_jv {a b : J2} (h1 : (fTimes a.x b.y).2 = true) (h2 : (fTimes a.y b.x).2 = true) : jv a = true ∧ jv b = true :=
  ⟨jv_iff.2 ⟨(fTimes_vld h1).1, (fTimes_vld h2).1⟩, jv_iff.2 ⟨(fTimes_vld h2).2.1, (fTimes_vld h1).2.1⟩⟩
theorem frB_frEq (x y : Fr) : frB x y = frEq x y := by rw [Bool.eq_iff_iff, frB_iff, frEq_iff]
theorem gJAl_eq {a b : J2} (h1 : (fTimes a.x b.y).2 = true) (h2 : (fTimes a.y b.x).2 = true) : gJAl a b = (frB (fTimes a.x b.y).1 (fTimes a.y b.x).1 && (dkJ a == dkJ b)) := by
  obtain ⟨h3, h4⟩ := gJAl_jv h1 h2
  unfold gJAl; rw [h1, h2, h3, h4, frB_frEq]; simp
theorem dkJ_frB {a : J2} (h : jv a = true) : dkJ a = (frB a.x f0 && frB a.y f0) := by
  obtain ⟨h1, h2⟩ := jv_iff.1 h
  rw [Bool.eq_iff_iff]
  unfold dkJ
  rw [Bool.and_eq_true, Bool.and_eq_true, dkF_f0 h1, dkF_f0 h2, frB_iff, frB_iff]
set_option maxRecDepth 100000 in
set_option maxHeartbeats 8000000 in
theorem idk_any (a : J2) (w : World) (hg_zero : Gat w 1 (ixF f0) 1) :
    Calls Tryd.prog 90 #[.agg #[.int .i64 a.x.re, .int .i64 a.x.im, .int .i64 a.x.den, .int .i64 a.y.re, .int .i64 a.y.im, .int .i64 a.y.den]] w (fun e w' => e = .returned (.bool (frB a.x f0 && frB a.y f0)) ∧ Below w.heap.size w w') := by
  have hEx : ∀ w, (Op.equalIn 10000 23 (.agg #[.int .i64 a.x.re, .int .i64 a.x.im, .int .i64 a.x.den]) (.agg #[.int .i64 0, .int .i64 0, .int .i64 1])).run Tryd.prog w = .ok (frB a.x f0) w := eqFr_run a.x f0 9998
  have hEy : ∀ w, (Op.equalIn 10000 23 (.agg #[.int .i64 a.y.re, .int .i64 a.y.im, .int .i64 a.y.den]) (.agg #[.int .i64 0, .int .i64 0, .int .i64 1])).run Tryd.prog w = .ok (frB a.y f0) w := eqFr_run a.y f0 9998
  obtain ⟨z0, z1, z2⟩ : w.cell? ⟨1, 0, none⟩ = some (.int .i64 0) ∧ w.cell? ⟨1, 1, none⟩ = some (.int .i64 0) ∧ w.cell? ⟨1, 2, none⟩ = some (.int .i64 1) := hg_zero.box 0 (by omega)
  have hlz := hg_zero.lt
  have n0 : ¬ 1 = w.heap.size := by omega
  have n1 : ¬ w.heap.size = 1 := by omega
  have n2 : ¬ w.heap = #[] := fun h => absurd (show (0 : Nat) < 0 from (by have hh : 0 < w.heap.size := (by omega); rw [h] at hh; exact hh)) (Nat.not_lt_zero _)
  cases hx : frB a.x f0
  · skip
    rw [hx] at hEx
    clear hx hEy
    have HB : Hid (Below w.heap.size w w) := Below.refl _ _
    have hlt_zero := hg_zero.lt
    have Hvzero : Hid (w.rangeAt 1 0 [.int .i64 0, .int .i64 0, .int .i64 1]) := by show World.rangeAt _ _ _ _; exact rangeOf1 hg_zero.box
    have HG_zero := Lib.hid hg_zero; clear hg_zero
    go_enter Tryd.func90, Tryd.ntmps90
    go_wp2_with fail
    go_ret
    exact ⟨rfl, (by (repeat' first | (with_reducible exact HB.out) | with_reducible refine setCells_below _ _ _ ?_ (by first | omega | (simp <;> omega)) | with_reducible refine Below.setCell ?_ (by show _ ≤ _; first | omega | (simp <;> omega) | simp) _ | with_reducible refine Below.alloc ?_ (by first | omega | (simp <;> omega)) _ | with_reducible apply Below.drew | with_reducible refine below_drewN ?_ _))⟩
  · skip
    rw [hx] at hEx
    clear hx
    have HB : Hid (Below w.heap.size w w) := Below.refl _ _
    have hlt_zero := hg_zero.lt
    have Hvzero : Hid (w.rangeAt 1 0 [.int .i64 0, .int .i64 0, .int .i64 1]) := by show World.rangeAt _ _ _ _; exact rangeOf1 hg_zero.box
    have HG_zero := Lib.hid hg_zero; clear hg_zero
    go_enter Tryd.func90, Tryd.ntmps90
    go_wp2_with fail
    go_ret
    exact ⟨rfl, (by (repeat' first | (with_reducible exact HB.out) | with_reducible refine setCells_below _ _ _ ?_ (by first | omega | (simp <;> omega)) | with_reducible refine Below.setCell ?_ (by show _ ≤ _; first | omega | (simp <;> omega) | simp) _ | with_reducible refine Below.alloc ?_ (by first | omega | (simp <;> omega)) _ | with_reducible apply Below.drew | with_reducible refine below_drewN ?_ _))⟩
end Go.Proofs.YtmcokdiopcpifaaDoor
