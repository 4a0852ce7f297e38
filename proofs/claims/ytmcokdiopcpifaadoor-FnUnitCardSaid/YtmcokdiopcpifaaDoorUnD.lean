/- Contracts: sums and products. -/
import Derived.Test.YtmcokdiopcpifaaDoorUnG1
set_option maxRecDepth 100000
namespace Go.Proofs.YtmcokdiopcpifaaDoor
open Go.RowKit Pol
theorem valid_b {x y z : Int} {b : Bool} (h : vld ⟨x, y, z⟩ = b) (w : World) :
    Calls Tryd.prog 86 #[.agg #[.int .i64 x, .int .i64 y, .int .i64 z]] w fun e w' => e = .returned (.bool b) ∧ Below w.heap.size w w' := h ▸ valid_any x y z w
theorem valid_fr (a : Fr) (w : World) :
    Calls Tryd.prog 86 #[.agg #[.int .i64 a.re, .int .i64 a.im, .int .i64 a.den]] w fun e w' => e = .returned (.bool (vld a)) ∧ Below w.heap.size w w' := valid_any a.re a.im a.den w
theorem valid_fb {a : Fr} {b : Bool} (h : vld a = b) (w : World) :
    Calls Tryd.prog 86 #[.agg #[.int .i64 a.re, .int .i64 a.im, .int .i64 a.den]] w fun e w' => e = .returned (.bool b) ∧ Below w.heap.size w w' := h ▸ valid_fr a w
theorem mul_bd {a b : Int} (h1 : -2000000000 ≤ a) (h2 : a ≤ 2000000000) (h3 : -2000000000 ≤ b) (h4 : b ≤ 2000000000) : -4000000000000000000 ≤ a * b ∧ a * b ≤ 4000000000000000000 := by
  have h : (a * b).natAbs ≤ 2000000000 * 2000000000 := by rw [Int.natAbs_mul]; exact Nat.mul_le_mul (by omega) (by omega)
  omega
set_option maxHeartbeats 1000000 in
theorem times_any (x1 y1 z1 x2 y2 z2 : Int) (w : World) :
    Calls Tryd.prog 31 #[.agg #[.int .i64 x1, .int .i64 y1, .int .i64 z1], .agg #[.int .i64 x2, .int .i64 y2, .int .i64 z2]] w (FrOut (fTimes ⟨x1, y1, z1⟩ ⟨x2, y2, z2⟩) w) := by
  cases h1 : vld ⟨x1, y1, z1⟩
  · have HL : Hid (fTimes ⟨x1, y1, z1⟩ ⟨x2, y2, z2⟩ = (⟨0, 0, 0⟩, false)) := by show _ = _; unfold fTimes; rw [h1]; rfl
    go_enter Tryd.func31, Tryd.ntmps31
    go_wp2_with (go_at_call 86; ((with_reducible refine (valid_b h1 _).mono ?_); rintro e w' ⟨rfl, hb⟩; obtain ⟨hc, hf, hz⟩ := bcellk (B := w.heap.size + 1 + 1 + 1) hb (by first | omega | (simp <;> omega))))
    refine bodyPost_ret (v := .tuple #[.agg #[.int .i64 0, .int .i64 0, .int .i64 0], .bool false]) (by simp [results, Tryd.results31, go_sem, *]) rfl (FrOut.mk HL rfl ?_)
    (repeat' first | exact Below.refl _ _ | apply bl_alloc | apply bl_drewN | apply bl_drew | refine bl_trans ?_ (by assumption) | refine bl_set ?_ (by first | omega | (simp <;> omega)) _)
  cases h2 : vld ⟨x2, y2, z2⟩
  · have HL : Hid (fTimes ⟨x1, y1, z1⟩ ⟨x2, y2, z2⟩ = (⟨0, 0, 0⟩, false)) := by show _ = _; unfold fTimes; rw [h1, h2]; rfl
    go_enter Tryd.func31, Tryd.ntmps31
    go_wp2_with (go_at_call 86; first | ((with_reducible refine (valid_b h1 _).mono ?_); rintro e w' ⟨rfl, hb⟩; obtain ⟨hc, hf, hz⟩ := bcellk (B := w.heap.size + 1 + 1 + 1) hb (by first | omega | (simp <;> omega))) | ((with_reducible refine (valid_b h2 _).mono ?_); rintro e w' ⟨rfl, hb⟩; obtain ⟨hc, hf, hz⟩ := bcellk (B := w.heap.size + 1 + 1 + 1) hb (by first | omega | (simp <;> omega))))
    refine bodyPost_ret (v := .tuple #[.agg #[.int .i64 0, .int .i64 0, .int .i64 0], .bool false]) (by simp [results, Tryd.results31, go_sem, *]) rfl (FrOut.mk HL rfl ?_)
    (repeat' first | exact Below.refl _ _ | apply bl_alloc | apply bl_drewN | apply bl_drew | refine bl_trans ?_ (by assumption) | refine bl_set ?_ (by first | omega | (simp <;> omega)) _)
  have HL : Hid (fTimes ⟨x1, y1, z1⟩ ⟨x2, y2, z2⟩ = low (x1 * x2 - y1 * y2) (x1 * y2 + y1 * x2) (z1 * z2)) := by show _ = _; unfold fTimes; rw [h1, h2]; rfl
  obtain ⟨⟨a1, a2⟩, ⟨b1, b2⟩, ⟨c1, c2⟩, _⟩ := (vld_iff _).1 h1
  obtain ⟨⟨d1, d2⟩, ⟨e1, e2⟩, ⟨f1, f2⟩, _⟩ := (vld_iff _).1 h2
  simp only at a1 a2 b1 b2 c1 c2 d1 d2 e1 e2 f1 f2
  obtain ⟨m1, m2⟩ := mul_bd a1 a2 d1 d2
  obtain ⟨m3, m4⟩ := mul_bd b1 b2 e1 e2
  obtain ⟨m5, m6⟩ := mul_bd a1 a2 e1 e2
  obtain ⟨m7, m8⟩ := mul_bd b1 b2 d1 d2
  obtain ⟨_, m9⟩ := mul_bd (a := z1) (b := z2) (by omega) c2 (by omega) f2
  have m10 := Int.mul_pos (a := z1) (b := z2) (by omega) (by omega)
  clear a1 a2 b1 b2 c1 c2 d1 d2 e1 e2 f1 f2
  go_enter Tryd.func31, Tryd.ntmps31
  go_wp2_with (go_at_call 86; first | ((with_reducible refine (valid_b h1 _).mono ?_); rintro e w' ⟨rfl, hb⟩; obtain ⟨hc, hf, hz⟩ := bcellk (B := w.heap.size + 1 + 1 + 1) hb (by first | omega | (simp <;> omega))) | ((with_reducible refine (valid_b h2 _).mono ?_); rintro e w' ⟨rfl, hb⟩; obtain ⟨hc, hf, hz⟩ := bcellk (B := w.heap.size + 1 + 1 + 1) hb (by first | omega | (simp <;> omega))))
  go_wp2_with (go_at_call 87; (with_reducible refine (lowest_any _ _ _ (by omega) (by omega) (by omega) (by omega) (by omega) (by omega) _).mono ?_); rintro e w' ⟨r, ok, H, rfl, hb⟩; obtain ⟨hc, hf, hz⟩ := bcellk (B := w.heap.size + 1 + 1 + 1) hb (by first | omega | (simp <;> omega)))
  refine bodyPost_ret (v := .tuple #[.agg #[.int .i64 r.re, .int .i64 r.im, .int .i64 r.den], .bool ok]) (by simp [results, Tryd.results31, go_sem, *]) rfl (FrOut.mk (by show _ = _; rw [HL.out]; exact H.out) rfl ?_)
  (repeat' first | exact Below.refl _ _ | apply bl_alloc | apply bl_drewN | apply bl_drew | refine bl_trans ?_ (by assumption) | refine bl_set ?_ (by first | omega | (simp <;> omega)) _)
theorem times_fr (a b : Fr) (w : World) : Calls Tryd.prog 31 #[.agg #[.int .i64 a.re, .int .i64 a.im, .int .i64 a.den], .agg #[.int .i64 b.re, .int .i64 b.im, .int .i64 b.den]] w (FrOut (fTimes a b) w) := times_any a.re a.im a.den b.re b.im b.den w
set_option maxHeartbeats 1000000 in
theorem add_any (x1 y1 z1 x2 y2 z2 : Int) (w : World) :
    Calls Tryd.prog 121 #[.agg #[.int .i64 x1, .int .i64 y1, .int .i64 z1], .agg #[.int .i64 x2, .int .i64 y2, .int .i64 z2]] w (FrOut (fAdd ⟨x1, y1, z1⟩ ⟨x2, y2, z2⟩) w) := by
  cases h1 : vld ⟨x1, y1, z1⟩
  · have HL : Hid (fAdd ⟨x1, y1, z1⟩ ⟨x2, y2, z2⟩ = (⟨0, 0, 0⟩, false)) := by show _ = _; unfold fAdd; rw [h1]; rfl
    go_enter Tryd.func121, Tryd.ntmps121
    go_wp2_with (go_at_call 86; ((with_reducible refine (valid_b h1 _).mono ?_); rintro e w' ⟨rfl, hb⟩; obtain ⟨hc, hf, hz⟩ := bcellk (B := w.heap.size + 1 + 1 + 1) hb (by first | omega | (simp <;> omega))))
    refine bodyPost_ret (v := .tuple #[.agg #[.int .i64 0, .int .i64 0, .int .i64 0], .bool false]) (by simp [results, Tryd.results121, go_sem, *]) rfl (FrOut.mk HL rfl ?_)
    (repeat' first | exact Below.refl _ _ | apply bl_alloc | apply bl_drewN | apply bl_drew | refine bl_trans ?_ (by assumption) | refine bl_set ?_ (by first | omega | (simp <;> omega)) _)
  cases h2 : vld ⟨x2, y2, z2⟩
  · have HL : Hid (fAdd ⟨x1, y1, z1⟩ ⟨x2, y2, z2⟩ = (⟨0, 0, 0⟩, false)) := by show _ = _; unfold fAdd; rw [h1, h2]; rfl
    go_enter Tryd.func121, Tryd.ntmps121
    go_wp2_with (go_at_call 86; first | ((with_reducible refine (valid_b h1 _).mono ?_); rintro e w' ⟨rfl, hb⟩; obtain ⟨hc, hf, hz⟩ := bcellk (B := w.heap.size + 1 + 1 + 1) hb (by first | omega | (simp <;> omega))) | ((with_reducible refine (valid_b h2 _).mono ?_); rintro e w' ⟨rfl, hb⟩; obtain ⟨hc, hf, hz⟩ := bcellk (B := w.heap.size + 1 + 1 + 1) hb (by first | omega | (simp <;> omega))))
    refine bodyPost_ret (v := .tuple #[.agg #[.int .i64 0, .int .i64 0, .int .i64 0], .bool false]) (by simp [results, Tryd.results121, go_sem, *]) rfl (FrOut.mk HL rfl ?_)
    (repeat' first | exact Below.refl _ _ | apply bl_alloc | apply bl_drewN | apply bl_drew | refine bl_trans ?_ (by assumption) | refine bl_set ?_ (by first | omega | (simp <;> omega)) _)
  have HL : Hid (fAdd ⟨x1, y1, z1⟩ ⟨x2, y2, z2⟩ = low (x1 * z2 + x2 * z1) (y1 * z2 + y2 * z1) (z1 * z2)) := by show _ = _; unfold fAdd; rw [h1, h2]; rfl
  obtain ⟨⟨a1, a2⟩, ⟨b1, b2⟩, ⟨c1, c2⟩, _⟩ := (vld_iff _).1 h1
  obtain ⟨⟨d1, d2⟩, ⟨e1, e2⟩, ⟨f1, f2⟩, _⟩ := (vld_iff _).1 h2
  simp only at a1 a2 b1 b2 c1 c2 d1 d2 e1 e2 f1 f2
  obtain ⟨m1, m2⟩ := mul_bd (a := x1) (b := z2) a1 a2 (by omega) f2
  obtain ⟨m3, m4⟩ := mul_bd (a := x2) (b := z1) d1 d2 (by omega) c2
  obtain ⟨m5, m6⟩ := mul_bd (a := y1) (b := z2) b1 b2 (by omega) f2
  obtain ⟨m7, m8⟩ := mul_bd (a := y2) (b := z1) e1 e2 (by omega) c2
  obtain ⟨_, m9⟩ := mul_bd (a := z1) (b := z2) (by omega) c2 (by omega) f2
  have m10 := Int.mul_pos (a := z1) (b := z2) (by omega) (by omega)
  clear a1 a2 b1 b2 c1 c2 d1 d2 e1 e2 f1 f2
  go_enter Tryd.func121, Tryd.ntmps121
  go_wp2_with (go_at_call 86; first | ((with_reducible refine (valid_b h1 _).mono ?_); rintro e w' ⟨rfl, hb⟩; obtain ⟨hc, hf, hz⟩ := bcellk (B := w.heap.size + 1 + 1 + 1) hb (by first | omega | (simp <;> omega))) | ((with_reducible refine (valid_b h2 _).mono ?_); rintro e w' ⟨rfl, hb⟩; obtain ⟨hc, hf, hz⟩ := bcellk (B := w.heap.size + 1 + 1 + 1) hb (by first | omega | (simp <;> omega))))
  go_wp2_with (go_at_call 87; (with_reducible refine (lowest_any _ _ _ (by omega) (by omega) (by omega) (by omega) (by omega) (by omega) _).mono ?_); rintro e w' ⟨r, ok, H, rfl, hb⟩; obtain ⟨hc, hf, hz⟩ := bcellk (B := w.heap.size + 1 + 1 + 1) hb (by first | omega | (simp <;> omega)))
  refine bodyPost_ret (v := .tuple #[.agg #[.int .i64 r.re, .int .i64 r.im, .int .i64 r.den], .bool ok]) (by simp [results, Tryd.results121, go_sem, *]) rfl (FrOut.mk (by show _ = _; rw [HL.out]; exact H.out) rfl ?_)
  (repeat' first | exact Below.refl _ _ | apply bl_alloc | apply bl_drewN | apply bl_drew | refine bl_trans ?_ (by assumption) | refine bl_set ?_ (by first | omega | (simp <;> omega)) _)
theorem add_fr (a b : Fr) (w : World) : Calls Tryd.prog 121 #[.agg #[.int .i64 a.re, .int .i64 a.im, .int .i64 a.den], .agg #[.int .i64 b.re, .int .i64 b.im, .int .i64 b.den]] w (FrOut (fAdd a b) w) := add_any a.re a.im a.den b.re b.im b.den w
set_option maxHeartbeats 1000000 in
theorem less_any (x1 y1 z1 x2 y2 z2 : Int) (w : World) :
    Calls Tryd.prog 122 #[.agg #[.int .i64 x1, .int .i64 y1, .int .i64 z1], .agg #[.int .i64 x2, .int .i64 y2, .int .i64 z2]] w (FrOut (fLess ⟨x1, y1, z1⟩ ⟨x2, y2, z2⟩) w) := by
  cases h1 : vld ⟨x1, y1, z1⟩
  · have HL : Hid (fLess ⟨x1, y1, z1⟩ ⟨x2, y2, z2⟩ = (⟨0, 0, 0⟩, false)) := by show _ = _; unfold fLess; rw [h1]; rfl
    go_enter Tryd.func122, Tryd.ntmps122
    go_wp2_with (go_at_call 86; ((with_reducible refine (valid_b h1 _).mono ?_); rintro e w' ⟨rfl, hb⟩; obtain ⟨hc, hf, hz⟩ := bcellk (B := w.heap.size + 1 + 1 + 1) hb (by first | omega | (simp <;> omega))))
    refine bodyPost_ret (v := .tuple #[.agg #[.int .i64 0, .int .i64 0, .int .i64 0], .bool false]) (by simp [results, Tryd.results122, go_sem, *]) rfl (FrOut.mk HL rfl ?_)
    (repeat' first | exact Below.refl _ _ | apply bl_alloc | apply bl_drewN | apply bl_drew | refine bl_trans ?_ (by assumption) | refine bl_set ?_ (by first | omega | (simp <;> omega)) _)
  cases h2 : vld ⟨x2, y2, z2⟩
  · have HL : Hid (fLess ⟨x1, y1, z1⟩ ⟨x2, y2, z2⟩ = (⟨0, 0, 0⟩, false)) := by show _ = _; unfold fLess; rw [h1, h2]; rfl
    go_enter Tryd.func122, Tryd.ntmps122
    go_wp2_with (go_at_call 86; first | ((with_reducible refine (valid_b h1 _).mono ?_); rintro e w' ⟨rfl, hb⟩; obtain ⟨hc, hf, hz⟩ := bcellk (B := w.heap.size + 1 + 1 + 1) hb (by first | omega | (simp <;> omega))) | ((with_reducible refine (valid_b h2 _).mono ?_); rintro e w' ⟨rfl, hb⟩; obtain ⟨hc, hf, hz⟩ := bcellk (B := w.heap.size + 1 + 1 + 1) hb (by first | omega | (simp <;> omega))))
    refine bodyPost_ret (v := .tuple #[.agg #[.int .i64 0, .int .i64 0, .int .i64 0], .bool false]) (by simp [results, Tryd.results122, go_sem, *]) rfl (FrOut.mk HL rfl ?_)
    (repeat' first | exact Below.refl _ _ | apply bl_alloc | apply bl_drewN | apply bl_drew | refine bl_trans ?_ (by assumption) | refine bl_set ?_ (by first | omega | (simp <;> omega)) _)
  have HL : Hid (fLess ⟨x1, y1, z1⟩ ⟨x2, y2, z2⟩ = low (x1 * z2 - x2 * z1) (y1 * z2 - y2 * z1) (z1 * z2)) := by show _ = _; unfold fLess; rw [h1, h2]; rfl
  obtain ⟨⟨a1, a2⟩, ⟨b1, b2⟩, ⟨c1, c2⟩, _⟩ := (vld_iff _).1 h1
  obtain ⟨⟨d1, d2⟩, ⟨e1, e2⟩, ⟨f1, f2⟩, _⟩ := (vld_iff _).1 h2
  simp only at a1 a2 b1 b2 c1 c2 d1 d2 e1 e2 f1 f2
  obtain ⟨m1, m2⟩ := mul_bd (a := x1) (b := z2) a1 a2 (by omega) f2
  obtain ⟨m3, m4⟩ := mul_bd (a := x2) (b := z1) d1 d2 (by omega) c2
  obtain ⟨m5, m6⟩ := mul_bd (a := y1) (b := z2) b1 b2 (by omega) f2
  obtain ⟨m7, m8⟩ := mul_bd (a := y2) (b := z1) e1 e2 (by omega) c2
  obtain ⟨_, m9⟩ := mul_bd (a := z1) (b := z2) (by omega) c2 (by omega) f2
  have m10 := Int.mul_pos (a := z1) (b := z2) (by omega) (by omega)
  clear a1 a2 b1 b2 c1 c2 d1 d2 e1 e2 f1 f2
  go_enter Tryd.func122, Tryd.ntmps122
  go_wp2_with (go_at_call 86; first | ((with_reducible refine (valid_b h1 _).mono ?_); rintro e w' ⟨rfl, hb⟩; obtain ⟨hc, hf, hz⟩ := bcellk (B := w.heap.size + 1 + 1 + 1) hb (by first | omega | (simp <;> omega))) | ((with_reducible refine (valid_b h2 _).mono ?_); rintro e w' ⟨rfl, hb⟩; obtain ⟨hc, hf, hz⟩ := bcellk (B := w.heap.size + 1 + 1 + 1) hb (by first | omega | (simp <;> omega))))
  go_wp2_with (go_at_call 87; (with_reducible refine (lowest_any _ _ _ (by omega) (by omega) (by omega) (by omega) (by omega) (by omega) _).mono ?_); rintro e w' ⟨r, ok, H, rfl, hb⟩; obtain ⟨hc, hf, hz⟩ := bcellk (B := w.heap.size + 1 + 1 + 1) hb (by first | omega | (simp <;> omega)))
  refine bodyPost_ret (v := .tuple #[.agg #[.int .i64 r.re, .int .i64 r.im, .int .i64 r.den], .bool ok]) (by simp [results, Tryd.results122, go_sem, *]) rfl (FrOut.mk (by show _ = _; rw [HL.out]; exact H.out) rfl ?_)
  (repeat' first | exact Below.refl _ _ | apply bl_alloc | apply bl_drewN | apply bl_drew | refine bl_trans ?_ (by assumption) | refine bl_set ?_ (by first | omega | (simp <;> omega)) _)
theorem less_fr (a b : Fr) (w : World) : Calls Tryd.prog 122 #[.agg #[.int .i64 a.re, .int .i64 a.im, .int .i64 a.den], .agg #[.int .i64 b.re, .int .i64 b.im, .int .i64 b.den]] w (FrOut (fLess a b) w) := less_any a.re a.im a.den b.re b.im b.den w
set_option maxHeartbeats 1000000 in
theorem mirror_any (x1 y1 z1 : Int) (w : World) :
    Calls Tryd.prog 125 #[.agg #[.int .i64 x1, .int .i64 y1, .int .i64 z1]] w (FrOut (fMirror ⟨x1, y1, z1⟩) w) := by
  cases h1 : vld ⟨x1, y1, z1⟩
  · have HL : Hid (fMirror ⟨x1, y1, z1⟩ = (⟨0, 0, 0⟩, false)) := by show _ = _; unfold fMirror; rw [h1]; rfl
    go_enter Tryd.func125, Tryd.ntmps125
    go_wp2_with (go_at_call 86; ((with_reducible refine (valid_b h1 _).mono ?_); rintro e w' ⟨rfl, hb⟩; obtain ⟨hc, hf, hz⟩ := bcellk (B := w.heap.size + 1 + 1) hb (by first | omega | (simp <;> omega))))
    refine bodyPost_ret (v := .tuple #[.agg #[.int .i64 0, .int .i64 0, .int .i64 0], .bool false]) (by simp [results, Tryd.results125, go_sem, *]) rfl (FrOut.mk HL rfl ?_)
    (repeat' first | exact Below.refl _ _ | apply bl_alloc | apply bl_drewN | apply bl_drew | refine bl_trans ?_ (by assumption) | refine bl_set ?_ (by first | omega | (simp <;> omega)) _)
  have HL : Hid (fMirror ⟨x1, y1, z1⟩ = (⟨x1, -y1, z1⟩, true)) := by show _ = _; unfold fMirror; rw [h1]; rfl
  obtain ⟨⟨a1, a2⟩, ⟨b1, b2⟩, ⟨c1, c2⟩, _⟩ := (vld_iff _).1 h1
  simp only at a1 a2 b1 b2 c1 c2
  go_enter Tryd.func125, Tryd.ntmps125
  go_wp2_with (go_at_call 86; ((with_reducible refine (valid_b h1 _).mono ?_); rintro e w' ⟨rfl, hb⟩; obtain ⟨hc, hf, hz⟩ := bcellk (B := w.heap.size + 1 + 1) hb (by first | omega | (simp <;> omega))))
  refine bodyPost_ret (v := .tuple #[.agg #[.int .i64 x1, .int .i64 (-y1), .int .i64 z1], .bool true]) (by simp [results, Tryd.results125, go_sem, *]) rfl (FrOut.mk HL rfl ?_)
  (repeat' first | exact Below.refl _ _ | apply bl_alloc | apply bl_drewN | apply bl_drew | refine bl_trans ?_ (by assumption) | refine bl_set ?_ (by first | omega | (simp <;> omega)) _)
theorem mirror_fr (a : Fr) (w : World) : Calls Tryd.prog 125 #[.agg #[.int .i64 a.re, .int .i64 a.im, .int .i64 a.den]] w (FrOut (fMirror a) w) := mirror_any a.re a.im a.den w
set_option maxHeartbeats 1000000 in
theorem power_any (x1 y1 z1 : Int) (w : World) :
    Calls Tryd.prog 33 #[.agg #[.int .i64 x1, .int .i64 y1, .int .i64 z1]] w (FrOut (fPower ⟨x1, y1, z1⟩) w) := by
  cases h1 : vld ⟨x1, y1, z1⟩
  · have HL : Hid (fPower ⟨x1, y1, z1⟩ = (⟨0, 0, 0⟩, false)) := by show _ = _; unfold fPower; rw [h1]; rfl
    go_enter Tryd.func33, Tryd.ntmps33
    go_wp2_with (go_at_call 86; ((with_reducible refine (valid_b h1 _).mono ?_); rintro e w' ⟨rfl, hb⟩; obtain ⟨hc, hf, hz⟩ := bcellk (B := w.heap.size + 1 + 1) hb (by first | omega | (simp <;> omega))))
    refine bodyPost_ret (v := .tuple #[.agg #[.int .i64 0, .int .i64 0, .int .i64 0], .bool false]) (by simp [results, Tryd.results33, go_sem, *]) rfl (FrOut.mk HL rfl ?_)
    (repeat' first | exact Below.refl _ _ | apply bl_alloc | apply bl_drewN | apply bl_drew | refine bl_trans ?_ (by assumption) | refine bl_set ?_ (by first | omega | (simp <;> omega)) _)
  have HL : Hid (fPower ⟨x1, y1, z1⟩ = low (x1 * x1 + y1 * y1) 0 (z1 * z1)) := by show _ = _; unfold fPower; rw [h1]; rfl
  obtain ⟨⟨a1, a2⟩, ⟨b1, b2⟩, ⟨c1, c2⟩, _⟩ := (vld_iff _).1 h1
  simp only at a1 a2 b1 b2 c1 c2
  obtain ⟨m1, m2⟩ := mul_bd a1 a2 a1 a2
  obtain ⟨m3, m4⟩ := mul_bd b1 b2 b1 b2
  obtain ⟨_, m9⟩ := mul_bd (a := z1) (b := z1) (by omega) c2 (by omega) c2
  have m10 := Int.mul_pos (a := z1) (b := z1) (by omega) (by omega)
  clear a1 a2 b1 b2 c1 c2
  go_enter Tryd.func33, Tryd.ntmps33
  go_wp2_with (go_at_call 86; ((with_reducible refine (valid_b h1 _).mono ?_); rintro e w' ⟨rfl, hb⟩; obtain ⟨hc, hf, hz⟩ := bcellk (B := w.heap.size + 1 + 1) hb (by first | omega | (simp <;> omega))))
  go_wp2_with (go_at_call 87; (with_reducible refine (lowest_any _ _ _ (by omega) (by omega) (by omega) (by omega) (by omega) (by omega) _).mono ?_); rintro e w' ⟨r, ok, H, rfl, hb⟩; obtain ⟨hc, hf, hz⟩ := bcellk (B := w.heap.size + 1 + 1) hb (by first | omega | (simp <;> omega)))
  refine bodyPost_ret (v := .tuple #[.agg #[.int .i64 r.re, .int .i64 r.im, .int .i64 r.den], .bool ok]) (by simp [results, Tryd.results33, go_sem, *]) rfl (FrOut.mk (by show _ = _; rw [HL.out]; exact H.out) rfl ?_)
  (repeat' first | exact Below.refl _ _ | apply bl_alloc | apply bl_drewN | apply bl_drew | refine bl_trans ?_ (by assumption) | refine bl_set ?_ (by first | omega | (simp <;> omega)) _)
theorem power_fr (a : Fr) (w : World) : Calls Tryd.prog 33 #[.agg #[.int .i64 a.re, .int .i64 a.im, .int .i64 a.den]] w (FrOut (fPower a) w) := power_any a.re a.im a.den w
end Go.Proofs.YtmcokdiopcpifaaDoor
