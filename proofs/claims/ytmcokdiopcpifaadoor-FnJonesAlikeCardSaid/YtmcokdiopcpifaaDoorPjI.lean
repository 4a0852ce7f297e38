/- Contracts of the reference: sums, products, mirrors. -/
import Derived.Test.YtmcokdiopcpifaaDoorPjD
import Derived.Test.YtmcokdiopcpifaaDoorPjH
set_option maxRecDepth 100000
namespace Go.Proofs.YtmcokdiopcpifaaDoor
open Go.RowKit Pol
set_option maxHeartbeats 1000000 in
theorem l2SumP_any (x1 y1 z1 x2 y2 z2 : Int) (w : World) :
    Calls Tryd.prog 118 #[.agg #[.int .i64 x1, .int .i64 y1, .int .i64 z1], .int .i64 (1), .agg #[.int .i64 x2, .int .i64 y2, .int .i64 z2]] w (FrOut (fAdd ⟨x1, y1, z1⟩ ⟨x2, y2, z2⟩) w) := by
  cases h1 : vld ⟨x1, y1, z1⟩
  · have HL : Hid (fAdd ⟨x1, y1, z1⟩ ⟨x2, y2, z2⟩ = (⟨0, 0, 0⟩, false)) := by show _ = _; unfold fAdd; rw [h1]; rfl
    go_enter Tryd.func118, Tryd.ntmps118
    go_wp2_with (go_at_call 67; ((with_reducible refine (svalid_b h1 _).mono ?_); rintro e w' ⟨rfl, hb⟩; obtain ⟨hc, hf, hz⟩ := bcellk (B := w.heap.size + 1 + 1 + 1) hb (by first | omega | (simp <;> omega))))
    refine bodyPost_ret (v := .tuple #[.agg #[.int .i64 0, .int .i64 0, .int .i64 0], .bool false]) (by simp [results, Tryd.results118, go_sem, *]) rfl (FrOut.mk HL rfl ?_)
    (repeat' first | exact Below.refl _ _ | apply bl_alloc | apply bl_drewN | apply bl_drew | refine bl_trans ?_ (by assumption) | refine bl_set ?_ (by first | omega | (simp <;> omega)) _)
  cases h2 : vld ⟨x2, y2, z2⟩
  · have HL : Hid (fAdd ⟨x1, y1, z1⟩ ⟨x2, y2, z2⟩ = (⟨0, 0, 0⟩, false)) := by show _ = _; unfold fAdd; rw [h1, h2]; rfl
    go_enter Tryd.func118, Tryd.ntmps118
    go_wp2_with (go_at_call 67; first | ((with_reducible refine (svalid_b h1 _).mono ?_); rintro e w' ⟨rfl, hb⟩; obtain ⟨hc, hf, hz⟩ := bcellk (B := w.heap.size + 1 + 1 + 1) hb (by first | omega | (simp <;> omega))) | ((with_reducible refine (svalid_b h2 _).mono ?_); rintro e w' ⟨rfl, hb⟩; obtain ⟨hc, hf, hz⟩ := bcellk (B := w.heap.size + 1 + 1 + 1) hb (by first | omega | (simp <;> omega))))
    refine bodyPost_ret (v := .tuple #[.agg #[.int .i64 0, .int .i64 0, .int .i64 0], .bool false]) (by simp [results, Tryd.results118, go_sem, *]) rfl (FrOut.mk HL rfl ?_)
    (repeat' first | exact Below.refl _ _ | apply bl_alloc | apply bl_drewN | apply bl_drew | refine bl_trans ?_ (by assumption) | refine bl_set ?_ (by first | omega | (simp <;> omega)) _)
  have HL : Hid (fAdd ⟨x1, y1, z1⟩ ⟨x2, y2, z2⟩ = low (x1 * z2 + x2 * z1) (y1 * z2 + y2 * z1) (z1 * z2)) := by show _ = _; unfold fAdd; rw [h1, h2]; rfl
  obtain ⟨⟨a1, a2⟩, ⟨b1, b2⟩, ⟨c1, c2⟩, _⟩ := (vld_iff _).1 h1
  obtain ⟨⟨d1, d2⟩, ⟨e1, e2⟩, ⟨f1, f2⟩, _⟩ := (vld_iff _).1 h2
  simp only at a1 a2 b1 b2 c1 c2 d1 d2 e1 e2 f1 f2
  obtain ⟨m1, m2⟩ := mul_bd (a := x1) (b := z2) a1 a2 (by omega) f2
  obtain ⟨m3, m4⟩ := mul_bd (a := x2) (b := z1) d1 d2 (by omega) c2
  obtain ⟨m5, m6⟩ := mul_bd (a := y1) (b := z2) b1 b2 (by omega) f2
  obtain ⟨m7, m8⟩ := mul_bd (a := y2) (b := z1) e1 e2 (by omega) c2
  obtain ⟨_, m9⟩ := mul_bd (a := z1) (b := z2) (by omega) c2 (by omega) f2
  have m10 := Int.mul_pos (a := z1) (b := z2) (by omega) (by omega)
  clear a1 a2 b1 b2 c1 c2 f1 f2
  go_enter Tryd.func118, Tryd.ntmps118
  go_wp2_with (go_at_call 67; first | ((with_reducible refine (svalid_b h1 _).mono ?_); rintro e w' ⟨rfl, hb⟩; obtain ⟨hc, hf, hz⟩ := bcellk (B := w.heap.size + 1 + 1 + 1) hb (by first | omega | (simp <;> omega))) | ((with_reducible refine (svalid_b h2 _).mono ?_); rintro e w' ⟨rfl, hb⟩; obtain ⟨hc, hf, hz⟩ := bcellk (B := w.heap.size + 1 + 1 + 1) hb (by first | omega | (simp <;> omega))))
  go_wp2_with (go_at_call 117; (with_reducible refine (l2Low_any _ _ _ (by omega) (by omega) (by omega) (by omega) (by omega) (by omega) _).mono ?_); rintro e w' ⟨r, ok, H, rfl, hb⟩; obtain ⟨hc, hf, hz⟩ := bcellk (B := w.heap.size + 1 + 1 + 1) hb (by first | omega | (simp <;> omega)))
  refine bodyPost_ret (v := .tuple #[.agg #[.int .i64 r.re, .int .i64 r.im, .int .i64 r.den], .bool ok]) (by simp [results, Tryd.results118, go_sem, *]) rfl (FrOut.mk (by show _ = _; rw [HL.out]; exact H.out) rfl ?_)
  (repeat' first | exact Below.refl _ _ | apply bl_alloc | apply bl_drewN | apply bl_drew | refine bl_trans ?_ (by assumption) | refine bl_set ?_ (by first | omega | (simp <;> omega)) _)
set_option maxHeartbeats 1000000 in
theorem l2SumM_any (x1 y1 z1 x2 y2 z2 : Int) (w : World) :
    Calls Tryd.prog 118 #[.agg #[.int .i64 x1, .int .i64 y1, .int .i64 z1], .int .i64 (-1), .agg #[.int .i64 x2, .int .i64 y2, .int .i64 z2]] w (FrOut (fLess ⟨x1, y1, z1⟩ ⟨x2, y2, z2⟩) w) := by
  cases h1 : vld ⟨x1, y1, z1⟩
  · have HL : Hid (fLess ⟨x1, y1, z1⟩ ⟨x2, y2, z2⟩ = (⟨0, 0, 0⟩, false)) := by show _ = _; unfold fLess; rw [h1]; rfl
    go_enter Tryd.func118, Tryd.ntmps118
    go_wp2_with (go_at_call 67; ((with_reducible refine (svalid_b h1 _).mono ?_); rintro e w' ⟨rfl, hb⟩; obtain ⟨hc, hf, hz⟩ := bcellk (B := w.heap.size + 1 + 1 + 1) hb (by first | omega | (simp <;> omega))))
    refine bodyPost_ret (v := .tuple #[.agg #[.int .i64 0, .int .i64 0, .int .i64 0], .bool false]) (by simp [results, Tryd.results118, go_sem, *]) rfl (FrOut.mk HL rfl ?_)
    (repeat' first | exact Below.refl _ _ | apply bl_alloc | apply bl_drewN | apply bl_drew | refine bl_trans ?_ (by assumption) | refine bl_set ?_ (by first | omega | (simp <;> omega)) _)
  cases h2 : vld ⟨x2, y2, z2⟩
  · have HL : Hid (fLess ⟨x1, y1, z1⟩ ⟨x2, y2, z2⟩ = (⟨0, 0, 0⟩, false)) := by show _ = _; unfold fLess; rw [h1, h2]; rfl
    go_enter Tryd.func118, Tryd.ntmps118
    go_wp2_with (go_at_call 67; first | ((with_reducible refine (svalid_b h1 _).mono ?_); rintro e w' ⟨rfl, hb⟩; obtain ⟨hc, hf, hz⟩ := bcellk (B := w.heap.size + 1 + 1 + 1) hb (by first | omega | (simp <;> omega))) | ((with_reducible refine (svalid_b h2 _).mono ?_); rintro e w' ⟨rfl, hb⟩; obtain ⟨hc, hf, hz⟩ := bcellk (B := w.heap.size + 1 + 1 + 1) hb (by first | omega | (simp <;> omega))))
    refine bodyPost_ret (v := .tuple #[.agg #[.int .i64 0, .int .i64 0, .int .i64 0], .bool false]) (by simp [results, Tryd.results118, go_sem, *]) rfl (FrOut.mk HL rfl ?_)
    (repeat' first | exact Below.refl _ _ | apply bl_alloc | apply bl_drewN | apply bl_drew | refine bl_trans ?_ (by assumption) | refine bl_set ?_ (by first | omega | (simp <;> omega)) _)
  have HL : Hid (fLess ⟨x1, y1, z1⟩ ⟨x2, y2, z2⟩ = low (x1 * z2 + -x2 * z1) (y1 * z2 + -y2 * z1) (z1 * z2)) := by show _ = _; unfold fLess; rw [h1, h2]; rw [Int.neg_mul, Int.neg_mul]; rfl
  obtain ⟨⟨a1, a2⟩, ⟨b1, b2⟩, ⟨c1, c2⟩, _⟩ := (vld_iff _).1 h1
  obtain ⟨⟨d1, d2⟩, ⟨e1, e2⟩, ⟨f1, f2⟩, _⟩ := (vld_iff _).1 h2
  simp only at a1 a2 b1 b2 c1 c2 d1 d2 e1 e2 f1 f2
  obtain ⟨m1, m2⟩ := mul_bd (a := x1) (b := z2) a1 a2 (by omega) f2
  obtain ⟨m3, m4⟩ := mul_bd (a := x2) (b := z1) d1 d2 (by omega) c2
  obtain ⟨m5, m6⟩ := mul_bd (a := y1) (b := z2) b1 b2 (by omega) f2
  obtain ⟨m7, m8⟩ := mul_bd (a := y2) (b := z1) e1 e2 (by omega) c2
  have n1 : -x2 * z1 = -(x2 * z1) := Int.neg_mul _ _
  have n2 : -y2 * z1 = -(y2 * z1) := Int.neg_mul _ _
  have k1 : -4000000000000000000 ≤ -x2 * z1 := by omega
  have k2 : -x2 * z1 ≤ 4000000000000000000 := by omega
  have k3 : -4000000000000000000 ≤ -y2 * z1 := by omega
  have k4 : -y2 * z1 ≤ 4000000000000000000 := by omega
  clear n1 n2
  obtain ⟨_, m9⟩ := mul_bd (a := z1) (b := z2) (by omega) c2 (by omega) f2
  have m10 := Int.mul_pos (a := z1) (b := z2) (by omega) (by omega)
  clear a1 a2 b1 b2 c1 c2 f1 f2
  go_enter Tryd.func118, Tryd.ntmps118
  go_wp2_with (go_at_call 67; first | ((with_reducible refine (svalid_b h1 _).mono ?_); rintro e w' ⟨rfl, hb⟩; obtain ⟨hc, hf, hz⟩ := bcellk (B := w.heap.size + 1 + 1 + 1) hb (by first | omega | (simp <;> omega))) | ((with_reducible refine (svalid_b h2 _).mono ?_); rintro e w' ⟨rfl, hb⟩; obtain ⟨hc, hf, hz⟩ := bcellk (B := w.heap.size + 1 + 1 + 1) hb (by first | omega | (simp <;> omega))))
  go_wp2_with (go_at_call 117; (with_reducible refine (l2Low_any _ _ _ (by omega) (by omega) (by omega) (by omega) (by omega) (by omega) _).mono ?_); rintro e w' ⟨r, ok, H, rfl, hb⟩; obtain ⟨hc, hf, hz⟩ := bcellk (B := w.heap.size + 1 + 1 + 1) hb (by first | omega | (simp <;> omega)))
  refine bodyPost_ret (v := .tuple #[.agg #[.int .i64 r.re, .int .i64 r.im, .int .i64 r.den], .bool ok]) (by simp [results, Tryd.results118, go_sem, *]) rfl (FrOut.mk (by show _ = _; rw [HL.out]; exact H.out) rfl ?_)
  (repeat' first | exact Below.refl _ _ | apply bl_alloc | apply bl_drewN | apply bl_drew | refine bl_trans ?_ (by assumption) | refine bl_set ?_ (by first | omega | (simp <;> omega)) _)
set_option maxHeartbeats 1000000 in
theorem sptimes_any (x1 y1 z1 x2 y2 z2 : Int) (w : World) :
    Calls Tryd.prog 71 #[.agg #[.int .i64 x1, .int .i64 y1, .int .i64 z1], .agg #[.int .i64 x2, .int .i64 y2, .int .i64 z2]] w (FrOut (fTimes ⟨x1, y1, z1⟩ ⟨x2, y2, z2⟩) w) := by
  cases h1 : vld ⟨x1, y1, z1⟩
  · have HL : Hid (fTimes ⟨x1, y1, z1⟩ ⟨x2, y2, z2⟩ = (⟨0, 0, 0⟩, false)) := by show _ = _; unfold fTimes; rw [h1]; rfl
    go_enter Tryd.func71, Tryd.ntmps71
    go_wp2_with (go_at_call 67; ((with_reducible refine (svalid_b h1 _).mono ?_); rintro e w' ⟨rfl, hb⟩; obtain ⟨hc, hf, hz⟩ := bcellk (B := w.heap.size + 1 + 1 + 1) hb (by first | omega | (simp <;> omega))))
    refine bodyPost_ret (v := .tuple #[.agg #[.int .i64 0, .int .i64 0, .int .i64 0], .bool false]) (by simp [results, Tryd.results71, go_sem, *]) rfl (FrOut.mk HL rfl ?_)
    (repeat' first | exact Below.refl _ _ | apply bl_alloc | apply bl_drewN | apply bl_drew | refine bl_trans ?_ (by assumption) | refine bl_set ?_ (by first | omega | (simp <;> omega)) _)
  cases h2 : vld ⟨x2, y2, z2⟩
  · have HL : Hid (fTimes ⟨x1, y1, z1⟩ ⟨x2, y2, z2⟩ = (⟨0, 0, 0⟩, false)) := by show _ = _; unfold fTimes; rw [h1, h2]; rfl
    go_enter Tryd.func71, Tryd.ntmps71
    go_wp2_with (go_at_call 67; first | ((with_reducible refine (svalid_b h1 _).mono ?_); rintro e w' ⟨rfl, hb⟩; obtain ⟨hc, hf, hz⟩ := bcellk (B := w.heap.size + 1 + 1 + 1) hb (by first | omega | (simp <;> omega))) | ((with_reducible refine (svalid_b h2 _).mono ?_); rintro e w' ⟨rfl, hb⟩; obtain ⟨hc, hf, hz⟩ := bcellk (B := w.heap.size + 1 + 1 + 1) hb (by first | omega | (simp <;> omega))))
    refine bodyPost_ret (v := .tuple #[.agg #[.int .i64 0, .int .i64 0, .int .i64 0], .bool false]) (by simp [results, Tryd.results71, go_sem, *]) rfl (FrOut.mk HL rfl ?_)
    (repeat' first | exact Below.refl _ _ | apply bl_alloc | apply bl_drewN | apply bl_drew | refine bl_trans ?_ (by assumption) | refine bl_set ?_ (by first | omega | (simp <;> omega)) _)
  have HL : Hid (fTimes ⟨x1, y1, z1⟩ ⟨x2, y2, z2⟩ = low (x1 * x2 - y1 * y2) (x1 * y2 + y1 * x2) (z1 * z2)) := by show _ = _; unfold fTimes; rw [h1, h2]; rfl
  obtain ⟨⟨a1, a2⟩, ⟨b1, b2⟩, ⟨c1, c2⟩, _⟩ := (vld_iff _).1 h1
  obtain ⟨⟨d1, d2⟩, ⟨e1, e2⟩, ⟨f1, f2⟩, _⟩ := (vld_iff _).1 h2
  simp only at a1 a2 b1 b2 c1 c2 d1 d2 e1 e2 f1 f2
  obtain ⟨m1, m2⟩ := mul_bd a1 a2 d1 d2
  obtain ⟨m3, m4⟩ := mul_bd b1 b2 e1 e2
  obtain ⟨m5, m6⟩ := mul_bd a1 a2 e1 e2
  obtain ⟨m7, m8⟩ := mul_bd b1 b2 d1 d2
  obtain ⟨_, m9⟩ := mul_bd (a := z1) (b := z2) (by omega) c2 (by omega) f2
  have m10 := Int.mul_pos (a := z1) (b := z2) (by omega) (by omega)
  clear a1 a2 b1 b2 c1 c2 f1 f2
  go_enter Tryd.func71, Tryd.ntmps71
  go_wp2_with (go_at_call 67; first | ((with_reducible refine (svalid_b h1 _).mono ?_); rintro e w' ⟨rfl, hb⟩; obtain ⟨hc, hf, hz⟩ := bcellk (B := w.heap.size + 1 + 1 + 1) hb (by first | omega | (simp <;> omega))) | ((with_reducible refine (svalid_b h2 _).mono ?_); rintro e w' ⟨rfl, hb⟩; obtain ⟨hc, hf, hz⟩ := bcellk (B := w.heap.size + 1 + 1 + 1) hb (by first | omega | (simp <;> omega))))
  go_wp2_with (go_at_call 117; (with_reducible refine (l2Low_any _ _ _ (by omega) (by omega) (by omega) (by omega) (by omega) (by omega) _).mono ?_); rintro e w' ⟨r, ok, H, rfl, hb⟩; obtain ⟨hc, hf, hz⟩ := bcellk (B := w.heap.size + 1 + 1 + 1) hb (by first | omega | (simp <;> omega)))
  refine bodyPost_ret (v := .tuple #[.agg #[.int .i64 r.re, .int .i64 r.im, .int .i64 r.den], .bool ok]) (by simp [results, Tryd.results71, go_sem, *]) rfl (FrOut.mk (by show _ = _; rw [HL.out]; exact H.out) rfl ?_)
  (repeat' first | exact Below.refl _ _ | apply bl_alloc | apply bl_drewN | apply bl_drew | refine bl_trans ?_ (by assumption) | refine bl_set ?_ (by first | omega | (simp <;> omega)) _)
set_option maxHeartbeats 1000000 in
theorem spadd_any (x1 y1 z1 x2 y2 z2 : Int) (w : World) :
    Calls Tryd.prog 75 #[.agg #[.int .i64 x1, .int .i64 y1, .int .i64 z1], .agg #[.int .i64 x2, .int .i64 y2, .int .i64 z2]] w (FrOut (fAdd ⟨x1, y1, z1⟩ ⟨x2, y2, z2⟩) w) := by
  go_enter Tryd.func75, Tryd.ntmps75
  go_wp2_with (go_at_call 118; (with_reducible refine (l2SumP_any x1 y1 z1 x2 y2 z2 _).mono ?_); rintro e w' ⟨r, ok, H, rfl, hb⟩; obtain ⟨hc, hf, hz⟩ := bcellk (B := w.heap.size + 1 + 1 + 1) hb (by first | omega | (simp <;> omega)))
  refine bodyPost_ret (v := .tuple #[.agg #[.int .i64 r.re, .int .i64 r.im, .int .i64 r.den], .bool ok]) (by simp [results, Tryd.results75, go_sem, *]) rfl (FrOut.mk H rfl ?_)
  (repeat' first | exact Below.refl _ _ | apply bl_alloc | apply bl_drewN | apply bl_drew | refine bl_trans ?_ (by assumption) | refine bl_set ?_ (by first | omega | (simp <;> omega)) _)
theorem spadd_fr (a b : Fr) (w : World) : Calls Tryd.prog 75 #[.agg #[.int .i64 a.re, .int .i64 a.im, .int .i64 a.den], .agg #[.int .i64 b.re, .int .i64 b.im, .int .i64 b.den]] w (FrOut (fAdd a b) w) := spadd_any a.re a.im a.den b.re b.im b.den w
set_option maxHeartbeats 1000000 in
theorem spless_any (x1 y1 z1 x2 y2 z2 : Int) (w : World) :
    Calls Tryd.prog 140 #[.agg #[.int .i64 x1, .int .i64 y1, .int .i64 z1], .agg #[.int .i64 x2, .int .i64 y2, .int .i64 z2]] w (FrOut (fLess ⟨x1, y1, z1⟩ ⟨x2, y2, z2⟩) w) := by
  go_enter Tryd.func140, Tryd.ntmps140
  go_wp2_with (go_at_call 118; (with_reducible refine (l2SumM_any x1 y1 z1 x2 y2 z2 _).mono ?_); rintro e w' ⟨r, ok, H, rfl, hb⟩; obtain ⟨hc, hf, hz⟩ := bcellk (B := w.heap.size + 1 + 1 + 1) hb (by first | omega | (simp <;> omega)))
  refine bodyPost_ret (v := .tuple #[.agg #[.int .i64 r.re, .int .i64 r.im, .int .i64 r.den], .bool ok]) (by simp [results, Tryd.results140, go_sem, *]) rfl (FrOut.mk H rfl ?_)
  (repeat' first | exact Below.refl _ _ | apply bl_alloc | apply bl_drewN | apply bl_drew | refine bl_trans ?_ (by assumption) | refine bl_set ?_ (by first | omega | (simp <;> omega)) _)
theorem spless_fr (a b : Fr) (w : World) : Calls Tryd.prog 140 #[.agg #[.int .i64 a.re, .int .i64 a.im, .int .i64 a.den], .agg #[.int .i64 b.re, .int .i64 b.im, .int .i64 b.den]] w (FrOut (fLess a b) w) := spless_any a.re a.im a.den b.re b.im b.den w
theorem sptimes_fr (a b : Fr) (w : World) : Calls Tryd.prog 71 #[.agg #[.int .i64 a.re, .int .i64 a.im, .int .i64 a.den], .agg #[.int .i64 b.re, .int .i64 b.im, .int .i64 b.den]] w (FrOut (fTimes a b) w) := sptimes_any a.re a.im a.den b.re b.im b.den w
set_option maxHeartbeats 1000000 in
theorem spmirror_any (x1 y1 z1 : Int) (w : World) :
    Calls Tryd.prog 136 #[.agg #[.int .i64 x1, .int .i64 y1, .int .i64 z1]] w (FrOut (fMirror ⟨x1, y1, z1⟩) w) := by
  cases h1 : vld ⟨x1, y1, z1⟩
  · have HL : Hid (fMirror ⟨x1, y1, z1⟩ = (⟨0, 0, 0⟩, false)) := by show _ = _; unfold fMirror; rw [h1]; rfl
    go_enter Tryd.func136, Tryd.ntmps136
    go_wp2_with (go_at_call 67; ((with_reducible refine (svalid_b h1 _).mono ?_); rintro e w' ⟨rfl, hb⟩; obtain ⟨hc, hf, hz⟩ := bcellk (B := w.heap.size + 1 + 1) hb (by first | omega | (simp <;> omega))))
    refine bodyPost_ret (v := .tuple #[.agg #[.int .i64 0, .int .i64 0, .int .i64 0], .bool false]) (by simp [results, Tryd.results136, go_sem, *]) rfl (FrOut.mk HL rfl ?_)
    (repeat' first | exact Below.refl _ _ | apply bl_alloc | apply bl_drewN | apply bl_drew | refine bl_trans ?_ (by assumption) | refine bl_set ?_ (by first | omega | (simp <;> omega)) _)
  have HL : Hid (fMirror ⟨x1, y1, z1⟩ = (⟨x1, -y1, z1⟩, true)) := by show _ = _; unfold fMirror; rw [h1]; rfl
  obtain ⟨⟨a1, a2⟩, ⟨b1, b2⟩, ⟨c1, c2⟩, _⟩ := (vld_iff _).1 h1
  simp only at a1 a2 b1 b2 c1 c2
  go_enter Tryd.func136, Tryd.ntmps136
  go_wp2_with (go_at_call 67; ((with_reducible refine (svalid_b h1 _).mono ?_); rintro e w' ⟨rfl, hb⟩; obtain ⟨hc, hf, hz⟩ := bcellk (B := w.heap.size + 1 + 1) hb (by first | omega | (simp <;> omega))))
  refine bodyPost_ret (v := .tuple #[.agg #[.int .i64 x1, .int .i64 (-y1), .int .i64 z1], .bool true]) (by simp [results, Tryd.results136, go_sem, *]) rfl (FrOut.mk HL rfl ?_)
  (repeat' first | exact Below.refl _ _ | apply bl_alloc | apply bl_drewN | apply bl_drew | refine bl_trans ?_ (by assumption) | refine bl_set ?_ (by first | omega | (simp <;> omega)) _)
theorem spmirror_fr (a : Fr) (w : World) : Calls Tryd.prog 136 #[.agg #[.int .i64 a.re, .int .i64 a.im, .int .i64 a.den]] w (FrOut (fMirror a) w) := spmirror_any a.re a.im a.den w
end Go.Proofs.YtmcokdiopcpifaaDoor
