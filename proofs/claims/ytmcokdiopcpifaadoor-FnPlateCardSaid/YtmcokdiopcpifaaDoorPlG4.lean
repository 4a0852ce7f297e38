/- Contracts of the reference: ranges, greatest common divisors, lowest terms, valid fractions. -/
import Derived.Test.YtmcokdiopcpifaaDoorPlG1
import Derived.Test.YtmcokdiopcpifaaDoorPlD
import Derived.Deep.MidRow
import Derived.Laws.Rows
import Derived.Test.YtmcokdiopcpifaaDoorPlPlain
import Derived.Test.YtmcokdiopcpifaaDoorPlE
set_option maxRecDepth 100000
namespace Go.Proofs.YtmcokdiopcpifaaDoor
open Go.RowKit Pol
theorem l6In_any (n lo hi : Int) (w : World) :
    Calls Tryd.prog 61 #[.int .i64 n, .int .i64 lo, .int .i64 hi] w fun e w' => e = .returned (.bool (wi n lo hi)) ∧ w = w' := by
  unfold wi
  go_enter Tryd.func61, Tryd.ntmps61
  go_wp2
  all_goals go_ret
  all_goals (simp [*]; try omega)
theorem l6In_b {n lo hi : Int} {b : Bool} (h : wi n lo hi = b) (w : World) :
    Calls Tryd.prog 61 #[.int .i64 n, .int .i64 lo, .int .i64 hi] w fun e w' => e = .returned (.bool b) ∧ w = w' :=
  (l6In_any n lo hi w).mono fun _ _ g => ⟨by rw [← h]; exact g.1, g.2⟩
theorem l6In_q {n lo hi : Int} {b : Bool} (h : wi n lo hi = b) (w : World) (k : Nat) :
    Calls Tryd.prog 61 #[.int .i64 n, .int .i64 lo, .int .i64 hi] (w.drewN k) fun e w' => e = .returned (.bool b) ∧ ∃ m, w' = w.drewN m :=
  (l6In_any n lo hi (w.drewN k)).mono fun _ _ g => ⟨by rw [← h]; exact g.1, k, g.2.symm⟩
theorem l2In_any (n : Int) (w : World) :
    Calls Tryd.prog 115 #[.int .i64 n] w fun e w' => e = .returned (.bool (wi n (-2000000000) 2000000000)) ∧ w = w' := by
  go_enter Tryd.func115, Tryd.ntmps115
  go_wp2_with (go_at_call 61; (with_reducible refine (l6In_any _ _ _ _).mono ?_); rintro e w' ⟨rfl, rfl⟩)
  go_ret
  exact ⟨rfl, rfl⟩
theorem l2In_q {n : Int} {b : Bool} (h : wi n (-2000000000) 2000000000 = b) (w : World) (k : Nat) :
    Calls Tryd.prog 115 #[.int .i64 n] (w.drewN k) fun e w' => e = .returned (.bool b) ∧ ∃ m, w' = w.drewN m :=
  (l2In_any n (w.drewN k)).mono fun _ _ g => ⟨by rw [← h]; exact g.1, k, g.2.symm⟩
theorem tmod_bd (c d : Int) (h0 : d ≠ 0) : (c.tmod d).natAbs < d.natAbs := by
  rw [Int.natAbs_tmod]; exact Nat.mod_lt _ (by omega)
theorem l2Gcd_any (a b : Int) (ha : -9000000000000000000 ≤ a) (ha' : a ≤ 9000000000000000000) (hb : -9000000000000000000 ≤ b) (hb' : b ≤ 9000000000000000000) (w : World) :
    Calls Tryd.prog 116 #[.int .i64 a, .int .i64 b] w fun e w' => e = .returned (.int .i64 (gc a b)) ∧ w = w' := by
  go_enter Tryd.func116, Tryd.ntmps116
  go_wp2
  go_loop [0, 1] (fun x y => ∃ c d : Int, x = .int .i64 c ∧ y = .int .i64 d ∧ -9000000000000000000 ≤ c ∧ c ≤ 9000000000000000000 ∧ -9000000000000000000 ≤ d ∧ d ≤ 9000000000000000000 ∧ Hid (gc c d = gc a b))
    (fun _ y => (intOf y).natAbs)
  case atStart => exact ⟨a, b, rfl, rfl, ha, ha', hb, hb', rfl⟩
  case round =>
    obtain ⟨c, d, rfl, rfl, hc, hc', hd, hd', HG⟩ := hrel
    by_cases h0 : d = 0
    · subst h0
      go_wp2
      all_goals go_ret
      all_goals exact ⟨ret_int (by have := HG.out; rw [gc_zero] at this; omega), rfl⟩
    · have hne : (d != 0) = true := by simp [h0]
      have ht := tmod_bd c d h0
      go_wp2
      have HG2 : gc d (c.tmod d) = gc a b := by rw [gc_tmod]; exact HG.out
      go_round
      case rel => exact ⟨d, c.tmod d, rfl, rfl, hd, hd', by clear hne; omega, by clear hne; omega, HG2⟩
      case measure => simpa [intOf] using ht
theorem l2Gcd_q (a b c : Int) (h : gc a b = c) (ha : -9000000000000000000 ≤ a) (ha' : a ≤ 9000000000000000000) (hb : -9000000000000000000 ≤ b) (hb' : b ≤ 9000000000000000000) (w : World) (k : Nat) :
    Calls Tryd.prog 116 #[.int .i64 a, .int .i64 b] (w.drewN k) fun e w' => e = .returned (.int .i64 c) ∧ ∃ m, w' = w.drewN m :=
  (l2Gcd_any a b ha ha' hb hb' (w.drewN k)).mono fun _ _ g => ⟨by rw [← h]; exact g.1, k, g.2.symm⟩
set_option maxHeartbeats 1000000 in
theorem svalid_any (x y z : Int) (w : World) :
    Calls Tryd.prog 67 #[.agg #[.int .i64 x, .int .i64 y, .int .i64 z]] w fun e w' => e = .returned (.bool (vld ⟨x, y, z⟩)) ∧ Below w.heap.size w w' := by
  rw [vld_wi]
  cases h1 : wi x (-2000000000) 2000000000
  · go_enter Tryd.func67, Tryd.ntmps67
    go_wp2
    go_quiet ((go_at_call 115; with_reducible exact l2In_q h1 _ _))
    go_wp2
    go_ret
    exact ⟨rfl, below_box _ _ _⟩
  cases h2 : wi y (-2000000000) 2000000000
  · go_enter Tryd.func67, Tryd.ntmps67
    go_wp2
    go_quiet ((go_at_call 115; first | with_reducible exact l2In_q h1 _ _ | with_reducible exact l2In_q h2 _ _))
    go_wp2
    go_ret
    exact ⟨rfl, below_box _ _ _⟩
  cases h3 : wi z 1 2000000000
  · go_enter Tryd.func67, Tryd.ntmps67
    go_wp2
    go_quiet (first | (go_at_call 115; first | with_reducible exact l2In_q h1 _ _ | with_reducible exact l2In_q h2 _ _) | (go_at_call 61; with_reducible exact l6In_q h3 _ _))
    go_wp2
    go_ret
    exact ⟨rfl, below_box _ _ _⟩
  obtain ⟨a1, a2⟩ := wi_true h1
  obtain ⟨b1, b2⟩ := wi_true h2
  obtain ⟨c1, c2⟩ := wi_true h3
  have q1 := gc_nonneg z x
  have q2 := gc_le z x 2000000000 (by omega) c2 a1 a2
  have HG : Hid (gc (gc z x) y = g3 x y z) := g3_turn x y z
  go_enter Tryd.func67, Tryd.ntmps67
  go_wp2
  go_quiet (first
    | (go_at_call 115; first | with_reducible exact l2In_q h1 _ _ | with_reducible exact l2In_q h2 _ _)
    | (go_at_call 61; with_reducible exact l6In_q h3 _ _)
    | (go_at_call 116; first | with_reducible exact l2Gcd_q _ _ _ HG.out (by omega) (by omega) (by omega) (by omega) _ _ | with_reducible exact l2Gcd_q _ _ _ rfl (by omega) (by omega) (by omega) (by omega) _ _))
  go_wp2
  go_ret
  exact ⟨rfl, below_box _ _ _⟩
theorem svalid_fr (a : Fr) (w : World) :
    Calls Tryd.prog 67 #[.agg #[.int .i64 a.re, .int .i64 a.im, .int .i64 a.den]] w fun e w' => e = .returned (.bool (vld a)) ∧ Below w.heap.size w w' := svalid_any a.re a.im a.den w
theorem svalid_fb {a : Fr} {b : Bool} (h : vld a = b) (w : World) :
    Calls Tryd.prog 67 #[.agg #[.int .i64 a.re, .int .i64 a.im, .int .i64 a.den]] w fun e w' => e = .returned (.bool b) ∧ Below w.heap.size w w' := h ▸ svalid_fr a w
theorem svalid_b {x y z : Int} {b : Bool} (h : vld ⟨x, y, z⟩ = b) (w : World) :
    Calls Tryd.prog 67 #[.agg #[.int .i64 x, .int .i64 y, .int .i64 z]] w fun e w' => e = .returned (.bool b) ∧ Below w.heap.size w w' := h ▸ svalid_any x y z w
set_option maxHeartbeats 1000000 in
theorem l2Low_any (re im den : Int) (r0 : -9000000000000000000 ≤ re) (r1 : re ≤ 9000000000000000000) (i0 : -9000000000000000000 ≤ im) (i1 : im ≤ 9000000000000000000) (d0 : 1 ≤ den) (d1 : den ≤ 9000000000000000000) (w : World) :
    Calls Tryd.prog 117 #[.int .i64 re, .int .i64 im, .int .i64 den] w (FrOut (low re im den) w) := by
  have q1 := gc_nonneg den re
  have q2 := gc_le den re 9000000000000000000 (by omega) d1 r0 r1
  have gp := g3_pos re im den d0
  have gl : g3 re im den ≤ 9000000000000000000 := by rw [← g3_turn]; exact gc_le (gc den re) im 9000000000000000000 (by omega) q2 i0 i1
  have HG : Hid (gc (gc den re) im = g3 re im den) := g3_turn re im den
  have zp : Hid (den.tdiv (g3 re im den) = den / g3 re im den) := Int.tdiv_eq_ediv_of_nonneg (by omega)
  have zq0 : 0 ≤ den / g3 re im den := Int.ediv_nonneg (by omega) (by omega)
  have zq1 : den / g3 re im den ≤ 9000000000000000000 := Int.le_trans (Int.ediv_le_self _ (by omega)) d1
  cases h1 : vld ⟨re.tdiv (g3 re im den), im.tdiv (g3 re im den), den / g3 re im den⟩
  · have HL : Hid (low re im den = (⟨0, 0, 0⟩, false)) := by
      show _ = _; unfold low; rw [lowB_vld _ _ _ d0]; unfold cut; rw [zp.out, h1]; rfl
    generalize hg : g3 re im den = g at *
    have Hg := Lib.hid hg; clear hg
    go_enter Tryd.func117, Tryd.ntmps117
    go_wp2_with (first
      | (go_at_call 116; (with_reducible refine (l2Gcd_any den re (by omega) d1 r0 r1 _).mono ?_); rintro e w' ⟨rfl, rfl⟩)
      | (go_at_call 116; (with_reducible refine (l2Gcd_any (gc den re) im (by omega) q2 i0 i1 _).mono ?_); rintro e w' ⟨rfl, rfl⟩; rw [HG.out]))
    go_region
    go_wp2_with (go_at_call 67; (with_reducible refine (svalid_b h1 _).mono ?_); rintro e w' ⟨rfl, hb⟩; obtain ⟨hc, hf, hz⟩ := bcellk (B := w.heap.size + 1 + 1) hb (by first | omega | (simp <;> omega)))
    refine bodyPost_ret (v := .tuple #[.agg #[.int .i64 0, .int .i64 0, .int .i64 0], .bool false]) (by simp [results, Tryd.results117, go_sem, *]) rfl (FrOut.mk HL rfl ?_)
    (repeat' first | exact Below.refl _ _ | apply bl_alloc | apply bl_drewN | apply bl_drew | refine bl_trans ?_ (by assumption) | refine bl_set ?_ (by first | omega | (simp <;> omega)) _)
  · have HL : Hid (low re im den = (⟨re.tdiv (g3 re im den), im.tdiv (g3 re im den), den / g3 re im den⟩, true)) := by
      show _ = _; unfold low; rw [lowB_vld _ _ _ d0]; unfold cut; rw [zp.out, h1]; rfl
    generalize hg : g3 re im den = g at *
    have Hg := Lib.hid hg; clear hg
    go_enter Tryd.func117, Tryd.ntmps117
    go_wp2_with (first
      | (go_at_call 116; (with_reducible refine (l2Gcd_any den re (by omega) d1 r0 r1 _).mono ?_); rintro e w' ⟨rfl, rfl⟩)
      | (go_at_call 116; (with_reducible refine (l2Gcd_any (gc den re) im (by omega) q2 i0 i1 _).mono ?_); rintro e w' ⟨rfl, rfl⟩; rw [HG.out]))
    go_region
    go_wp2_with (go_at_call 67; (with_reducible refine (svalid_b h1 _).mono ?_); rintro e w' ⟨rfl, hb⟩; obtain ⟨hc, hf, hz⟩ := bcellk (B := w.heap.size + 1 + 1) hb (by first | omega | (simp <;> omega)))
    refine bodyPost_ret (v := .tuple #[.agg #[.int .i64 (re.tdiv g), .int .i64 (im.tdiv g), .int .i64 (den / g)], .bool true]) (by simp [results, Tryd.results117, go_sem, *]) rfl (FrOut.mk HL rfl ?_)
    (repeat' first | exact Below.refl _ _ | apply bl_alloc | apply bl_drewN | apply bl_drew | refine bl_trans ?_ (by assumption) | refine bl_set ?_ (by first | omega | (simp <;> omega)) _)
end Go.Proofs.YtmcokdiopcpifaaDoor
namespace Go.Proofs.YtmcokdiopcpifaaDoor
open Go.RowKit Pol
set_option maxHeartbeats 1000000 in
theorem l2SumP_any (x1 y1 z1 x2 y2 z2 : Int) (w : World) :
    Calls Tryd.prog 118 #[.agg #[.int .i64 x1, .int .i64 y1, .int .i64 z1], .int .i64 (1), .agg #[.int .i64 x2, .int .i64 y2, .int .i64 z2]] w (FrOut (fAdd ⟨x1, y1, z1⟩ ⟨x2, y2, z2⟩) w) := by
  cases h1 : vld ⟨x1, y1, z1⟩
  · have HL : Hid (fAdd ⟨x1, y1, z1⟩ ⟨x2, y2, z2⟩ = (⟨0, 0, 0⟩, false)) := by show _ = _; unfold fAdd; rw [h1]; rfl
    go_enter Tryd.func118, Tryd.ntmps118
    go_wp2_with (go_at_call 67; ((with_reducible refine (svalid_b h1 _).mono ?_); rintro e w' ⟨rfl, hb⟩; obtain ⟨hc, hf, hz⟩ := bcellk (B := w.heap.size + 1 + 1 + 1) hb (by first | omega | (simp <;> omega))))
    refine bodyPost_ret (v := .tuple #[.agg #[.int .i64 0, .int .i64 0, .int .i64 0], .bool false]) (by simp [results, Tryd.results118, go_sem, *]) rfl (FrOut.mk HL rfl ?_)
    (repeat' first | exact Below.refl _ _ | apply bl_alloc | apply bl_drewN | apply bl_drew | refine bl_trans ?_ (by assumption) | refine bl_set ?_ (by first | omega | (simp <;> omega)) _)
  cases h2 : vld ⟨x2, y2, z2⟩
  · have HL : Hid (fAdd ⟨x1, y1, z1⟩ ⟨x2, y2, z2⟩ = (⟨0, 0, 0⟩, false)) := by show _ = _; unfold fAdd; rw [h1, h2]; rfl
    go_enter Tryd.func118, Tryd.ntmps118
    go_wp2_with (go_at_call 67; first | ((with_reducible refine (svalid_b h1 _).mono ?_); rintro e w' ⟨rfl, hb⟩; obtain ⟨hc, hf, hz⟩ := bcellk (B := w.heap.size + 1 + 1 + 1) hb (by first | omega | (simp <;> omega))) | ((with_reducible refine (svalid_b h2 _).mono ?_); rintro e w' ⟨rfl, hb⟩; obtain ⟨hc, hf, hz⟩ := bcellk (B := w.heap.size + 1 + 1 + 1) hb (by first | omega | (simp <;> omega))))
    refine bodyPost_ret (v := .tuple #[.agg #[.int .i64 0, .int .i64 0, .int .i64 0], .bool false]) (by simp [results, Tryd.results118, go_sem, *]) rfl (FrOut.mk HL rfl ?_)
    (repeat' first | exact Below.refl _ _ | apply bl_alloc | apply bl_drewN | apply bl_drew | refine bl_trans ?_ (by assumption) | refine bl_set ?_ (by first | omega | (simp <;> omega)) _)
  have HL : Hid (fAdd ⟨x1, y1, z1⟩ ⟨x2, y2, z2⟩ = low (x1 * z2 + x2 * z1) (y1 * z2 + y2 * z1) (z1 * z2)) := by show _ = _; unfold fAdd; rw [h1, h2]; rfl
  obtain ⟨⟨a1, a2⟩, ⟨b1, b2⟩, ⟨c1, c2⟩, _⟩ := (vld_iff _).1 h1
  obtain ⟨⟨d1, d2⟩, ⟨e1, e2⟩, ⟨f1, f2⟩, _⟩ := (vld_iff _).1 h2
  simp only at a1 a2 b1 b2 c1 c2 d1 d2 e1 e2 f1 f2
  obtain ⟨m1, m2⟩ := mul_bd (a := x1) (b := z2) a1 a2 (by omega) f2
  obtain ⟨m3, m4⟩ := mul_bd (a := x2) (b := z1) d1 d2 (by omega) c2
  obtain ⟨m5, m6⟩ := mul_bd (a := y1) (b := z2) b1 b2 (by omega) f2
  obtain ⟨m7, m8⟩ := mul_bd (a := y2) (b := z1) e1 e2 (by omega) c2
  obtain ⟨_, m9⟩ := mul_bd (a := z1) (b := z2) (by omega) c2 (by omega) f2
  have m10 := Int.mul_pos (a := z1) (b := z2) (by omega) (by omega)
  clear a1 a2 b1 b2 c1 c2 f1 f2
  go_enter Tryd.func118, Tryd.ntmps118
  go_wp2_with (go_at_call 67; first | ((with_reducible refine (svalid_b h1 _).mono ?_); rintro e w' ⟨rfl, hb⟩; obtain ⟨hc, hf, hz⟩ := bcellk (B := w.heap.size + 1 + 1 + 1) hb (by first | omega | (simp <;> omega))) | ((with_reducible refine (svalid_b h2 _).mono ?_); rintro e w' ⟨rfl, hb⟩; obtain ⟨hc, hf, hz⟩ := bcellk (B := w.heap.size + 1 + 1 + 1) hb (by first | omega | (simp <;> omega))))
  go_wp2_with (go_at_call 117; (with_reducible refine (l2Low_any _ _ _ (by omega) (by omega) (by omega) (by omega) (by omega) (by omega) _).mono ?_); rintro e w' ⟨r, ok, H, rfl, hb⟩; obtain ⟨hc, hf, hz⟩ := bcellk (B := w.heap.size + 1 + 1 + 1) hb (by first | omega | (simp <;> omega)))
  refine bodyPost_ret (v := .tuple #[.agg #[.int .i64 r.re, .int .i64 r.im, .int .i64 r.den], .bool ok]) (by simp [results, Tryd.results118, go_sem, *]) rfl (FrOut.mk (by show _ = _; rw [HL.out]; exact H.out) rfl ?_)
  (repeat' first | exact Below.refl _ _ | apply bl_alloc | apply bl_drewN | apply bl_drew | refine bl_trans ?_ (by assumption) | refine bl_set ?_ (by first | omega | (simp <;> omega)) _)
set_option maxHeartbeats 1000000 in
theorem sptimes_any (x1 y1 z1 x2 y2 z2 : Int) (w : World) :
    Calls Tryd.prog 71 #[.agg #[.int .i64 x1, .int .i64 y1, .int .i64 z1], .agg #[.int .i64 x2, .int .i64 y2, .int .i64 z2]] w (FrOut (fTimes ⟨x1, y1, z1⟩ ⟨x2, y2, z2⟩) w) := by
  cases h1 : vld ⟨x1, y1, z1⟩
  · have HL : Hid (fTimes ⟨x1, y1, z1⟩ ⟨x2, y2, z2⟩ = (⟨0, 0, 0⟩, false)) := by show _ = _; unfold fTimes; rw [h1]; rfl
    go_enter Tryd.func71, Tryd.ntmps71
    go_wp2_with (go_at_call 67; ((with_reducible refine (svalid_b h1 _).mono ?_); rintro e w' ⟨rfl, hb⟩; obtain ⟨hc, hf, hz⟩ := bcellk (B := w.heap.size + 1 + 1 + 1) hb (by first | omega | (simp <;> omega))))
    refine bodyPost_ret (v := .tuple #[.agg #[.int .i64 0, .int .i64 0, .int .i64 0], .bool false]) (by simp [results, Tryd.results71, go_sem, *]) rfl (FrOut.mk HL rfl ?_)
    (repeat' first | exact Below.refl _ _ | apply bl_alloc | apply bl_drewN | apply bl_drew | refine bl_trans ?_ (by assumption) | refine bl_set ?_ (by first | omega | (simp <;> omega)) _)
  cases h2 : vld ⟨x2, y2, z2⟩
  · have HL : Hid (fTimes ⟨x1, y1, z1⟩ ⟨x2, y2, z2⟩ = (⟨0, 0, 0⟩, false)) := by show _ = _; unfold fTimes; rw [h1, h2]; rfl
    go_enter Tryd.func71, Tryd.ntmps71
    go_wp2_with (go_at_call 67; first | ((with_reducible refine (svalid_b h1 _).mono ?_); rintro e w' ⟨rfl, hb⟩; obtain ⟨hc, hf, hz⟩ := bcellk (B := w.heap.size + 1 + 1 + 1) hb (by first | omega | (simp <;> omega))) | ((with_reducible refine (svalid_b h2 _).mono ?_); rintro e w' ⟨rfl, hb⟩; obtain ⟨hc, hf, hz⟩ := bcellk (B := w.heap.size + 1 + 1 + 1) hb (by first | omega | (simp <;> omega))))
    refine bodyPost_ret (v := .tuple #[.agg #[.int .i64 0, .int .i64 0, .int .i64 0], .bool false]) (by simp [results, Tryd.results71, go_sem, *]) rfl (FrOut.mk HL rfl ?_)
    (repeat' first | exact Below.refl _ _ | apply bl_alloc | apply bl_drewN | apply bl_drew | refine bl_trans ?_ (by assumption) | refine bl_set ?_ (by first | omega | (simp <;> omega)) _)
  have HL : Hid (fTimes ⟨x1, y1, z1⟩ ⟨x2, y2, z2⟩ = low (x1 * x2 - y1 * y2) (x1 * y2 + y1 * x2) (z1 * z2)) := by show _ = _; unfold fTimes; rw [h1, h2]; rfl
  obtain ⟨⟨a1, a2⟩, ⟨b1, b2⟩, ⟨c1, c2⟩, _⟩ := (vld_iff _).1 h1
  obtain ⟨⟨d1, d2⟩, ⟨e1, e2⟩, ⟨f1, f2⟩, _⟩ := (vld_iff _).1 h2
  simp only at a1 a2 b1 b2 c1 c2 d1 d2 e1 e2 f1 f2
  obtain ⟨m1, m2⟩ := mul_bd a1 a2 d1 d2
  obtain ⟨m3, m4⟩ := mul_bd b1 b2 e1 e2
  obtain ⟨m5, m6⟩ := mul_bd a1 a2 e1 e2
  obtain ⟨m7, m8⟩ := mul_bd b1 b2 d1 d2
  obtain ⟨_, m9⟩ := mul_bd (a := z1) (b := z2) (by omega) c2 (by omega) f2
  have m10 := Int.mul_pos (a := z1) (b := z2) (by omega) (by omega)
  clear a1 a2 b1 b2 c1 c2 f1 f2
  go_enter Tryd.func71, Tryd.ntmps71
  go_wp2_with (go_at_call 67; first | ((with_reducible refine (svalid_b h1 _).mono ?_); rintro e w' ⟨rfl, hb⟩; obtain ⟨hc, hf, hz⟩ := bcellk (B := w.heap.size + 1 + 1 + 1) hb (by first | omega | (simp <;> omega))) | ((with_reducible refine (svalid_b h2 _).mono ?_); rintro e w' ⟨rfl, hb⟩; obtain ⟨hc, hf, hz⟩ := bcellk (B := w.heap.size + 1 + 1 + 1) hb (by first | omega | (simp <;> omega))))
  go_wp2_with (go_at_call 117; (with_reducible refine (l2Low_any _ _ _ (by omega) (by omega) (by omega) (by omega) (by omega) (by omega) _).mono ?_); rintro e w' ⟨r, ok, H, rfl, hb⟩; obtain ⟨hc, hf, hz⟩ := bcellk (B := w.heap.size + 1 + 1 + 1) hb (by first | omega | (simp <;> omega)))
  refine bodyPost_ret (v := .tuple #[.agg #[.int .i64 r.re, .int .i64 r.im, .int .i64 r.den], .bool ok]) (by simp [results, Tryd.results71, go_sem, *]) rfl (FrOut.mk (by show _ = _; rw [HL.out]; exact H.out) rfl ?_)
  (repeat' first | exact Below.refl _ _ | apply bl_alloc | apply bl_drewN | apply bl_drew | refine bl_trans ?_ (by assumption) | refine bl_set ?_ (by first | omega | (simp <;> omega)) _)
set_option maxHeartbeats 1000000 in
theorem spadd_any (x1 y1 z1 x2 y2 z2 : Int) (w : World) :
    Calls Tryd.prog 75 #[.agg #[.int .i64 x1, .int .i64 y1, .int .i64 z1], .agg #[.int .i64 x2, .int .i64 y2, .int .i64 z2]] w (FrOut (fAdd ⟨x1, y1, z1⟩ ⟨x2, y2, z2⟩) w) := by
  go_enter Tryd.func75, Tryd.ntmps75
  go_wp2_with (go_at_call 118; (with_reducible refine (l2SumP_any x1 y1 z1 x2 y2 z2 _).mono ?_); rintro e w' ⟨r, ok, H, rfl, hb⟩; obtain ⟨hc, hf, hz⟩ := bcellk (B := w.heap.size + 1 + 1 + 1) hb (by first | omega | (simp <;> omega)))
  refine bodyPost_ret (v := .tuple #[.agg #[.int .i64 r.re, .int .i64 r.im, .int .i64 r.den], .bool ok]) (by simp [results, Tryd.results75, go_sem, *]) rfl (FrOut.mk H rfl ?_)
  (repeat' first | exact Below.refl _ _ | apply bl_alloc | apply bl_drewN | apply bl_drew | refine bl_trans ?_ (by assumption) | refine bl_set ?_ (by first | omega | (simp <;> omega)) _)
theorem spadd_fr (a b : Fr) (w : World) : Calls Tryd.prog 75 #[.agg #[.int .i64 a.re, .int .i64 a.im, .int .i64 a.den], .agg #[.int .i64 b.re, .int .i64 b.im, .int .i64 b.den]] w (FrOut (fAdd a b) w) := spadd_any a.re a.im a.den b.re b.im b.den w
theorem sptimes_fr (a b : Fr) (w : World) : Calls Tryd.prog 71 #[.agg #[.int .i64 a.re, .int .i64 a.im, .int .i64 a.den], .agg #[.int .i64 b.re, .int .i64 b.im, .int .i64 b.den]] w (FrOut (fTimes a b) w) := sptimes_any a.re a.im a.den b.re b.im b.den w
set_option maxHeartbeats 1000000 in
theorem spmirror_any (x1 y1 z1 : Int) (w : World) :
    Calls Tryd.prog 136 #[.agg #[.int .i64 x1, .int .i64 y1, .int .i64 z1]] w (FrOut (fMirror ⟨x1, y1, z1⟩) w) := by
  cases h1 : vld ⟨x1, y1, z1⟩
  · have HL : Hid (fMirror ⟨x1, y1, z1⟩ = (⟨0, 0, 0⟩, false)) := by show _ = _; unfold fMirror; rw [h1]; rfl
    go_enter Tryd.func136, Tryd.ntmps136
    go_wp2_with (go_at_call 67; ((with_reducible refine (svalid_b h1 _).mono ?_); rintro e w' ⟨rfl, hb⟩; obtain ⟨hc, hf, hz⟩ := bcellk (B := w.heap.size + 1 + 1) hb (by first | omega | (simp <;> omega))))
    refine bodyPost_ret (v := .tuple #[.agg #[.int .i64 0, .int .i64 0, .int .i64 0], .bool false]) (by simp [results, Tryd.results136, go_sem, *]) rfl (FrOut.mk HL rfl ?_)
    (repeat' first | exact Below.refl _ _ | apply bl_alloc | apply bl_drewN | apply bl_drew | refine bl_trans ?_ (by assumption) | refine bl_set ?_ (by first | omega | (simp <;> omega)) _)
  have HL : Hid (fMirror ⟨x1, y1, z1⟩ = (⟨x1, -y1, z1⟩, true)) := by show _ = _; unfold fMirror; rw [h1]; rfl
  obtain ⟨⟨a1, a2⟩, ⟨b1, b2⟩, ⟨c1, c2⟩, _⟩ := (vld_iff _).1 h1
  simp only at a1 a2 b1 b2 c1 c2
  go_enter Tryd.func136, Tryd.ntmps136
  go_wp2_with (go_at_call 67; ((with_reducible refine (svalid_b h1 _).mono ?_); rintro e w' ⟨rfl, hb⟩; obtain ⟨hc, hf, hz⟩ := bcellk (B := w.heap.size + 1 + 1) hb (by first | omega | (simp <;> omega))))
  refine bodyPost_ret (v := .tuple #[.agg #[.int .i64 x1, .int .i64 (-y1), .int .i64 z1], .bool true]) (by simp [results, Tryd.results136, go_sem, *]) rfl (FrOut.mk HL rfl ?_)
  (repeat' first | exact Below.refl _ _ | apply bl_alloc | apply bl_drewN | apply bl_drew | refine bl_trans ?_ (by assumption) | refine bl_set ?_ (by first | omega | (simp <;> omega)) _)
theorem spmirror_fr (a : Fr) (w : World) : Calls Tryd.prog 136 #[.agg #[.int .i64 a.re, .int .i64 a.im, .int .i64 a.den]] w (FrOut (fMirror a) w) := spmirror_any a.re a.im a.den w
end Go.Proofs.YtmcokdiopcpifaaDoor
namespace Go.Proofs.YtmcokdiopcpifaaDoor
open Go.RowKit Pol
/-- Block N holds the n fractions g from offset 0 on. -/
def BoxAt (w : World) (N : Nat) (g : Nat → Fr) (n : Nat) : Prop :=
  ∀ k, k < n → w.cell? ⟨N, k * 3, none⟩ = some (.int .i64 (g k).re) ∧ w.cell? ⟨N, k * 3 + 1, none⟩ = some (.int .i64 (g k).im) ∧ w.cell? ⟨N, k * 3 + 2, none⟩ = some (.int .i64 (g k).den)
/-- Block N has n places for fractions that may be written. -/
def Room (w : World) (N n : Nat) : Prop := ∀ j, j < n * 3 → (w.cell? ⟨N, j, none⟩).isSome = true ∧ w.frozen? ⟨N, j, none⟩ = false
theorem BoxAt.below {w w' : World} {N n : Nat} {g : Nat → Fr} (h : BoxAt w N g n) {B : Nat} (hb : Below B w w') (hN : N < B) : BoxAt w' N g n := fun k hk =>
  ⟨(hb.cell (p := ⟨N, _, none⟩) hN).trans (h k hk).1, (hb.cell (p := ⟨N, _, none⟩) hN).trans (h k hk).2.1, (hb.cell (p := ⟨N, _, none⟩) hN).trans (h k hk).2.2⟩
theorem Room.below {w w' : World} {N n : Nat} (h : Room w N n) {B : Nat} (hb : Below B w w') (hN : N < B) : Room w' N n := fun j hj =>
  ⟨by rw [hb.cell (p := ⟨N, _, none⟩) hN]; exact (h j hj).1, by rw [hb.frozen (p := ⟨N, _, none⟩) hN]; exact (h j hj).2⟩
theorem Room.set {w : World} {N n : Nat} (h : Room w N n) (a : Addr) (v : Value) : Room (w.setCell a v) N n := fun j hj => by
  refine ⟨?_, by rw [World.frozen?_setCell]; exact (h j hj).2⟩
  by_cases e : a = ⟨N, j, none⟩
  · subst e; rw [World.cell?_setCell_same' _ _ _ (h j hj).1]; rfl
  · rw [World.cell?_setCell_other _ _ _ _ e]; exact (h j hj).1
/-- A store of a fraction at place k. -/
def putF (w : World) (N k : Nat) (f : Fr) : World := ((w.setCell ⟨N, k * 3, none⟩ (.int .i64 f.re)).setCell ⟨N, k * 3 + 1, none⟩ (.int .i64 f.im)).setCell ⟨N, k * 3 + 2, none⟩ (.int .i64 f.den)
theorem Room.put {w : World} {N n : Nat} (h : Room w N n) (M k : Nat) (f : Fr) : Room (putF w M k f) N n := ((h.set _ _).set _ _).set _ _
theorem ne_off {N a b : Nat} (h : a ≠ b) : (⟨N, a, none⟩ : Addr) ≠ ⟨N, b, none⟩ := fun e => h (by injection e)
theorem BoxAt.put {w : World} {N n k : Nat} {g : Nat → Fr} (h : BoxAt w N g k) (r : Room w N n) (hk : k < n) : BoxAt (putF w N k (g k)) N g (k + 1) := by
  have same : ∀ (w : World) (o : Nat) (v : Value), Room w N n → o < n * 3 → (w.setCell ⟨N, o, none⟩ v).cell? ⟨N, o, none⟩ = some v := fun w o v r ho => World.cell?_setCell_same' _ _ _ (r o ho).1
  have oth : ∀ (w : World) (o p : Nat) (v : Value), o ≠ p → (w.setCell ⟨N, o, none⟩ v).cell? ⟨N, p, none⟩ = w.cell? ⟨N, p, none⟩ := fun w o p v hn => World.cell?_setCell_other _ _ _ _ (ne_off hn)
  intro j hj
  unfold putF
  by_cases e : j = k
  · subst e
    refine ⟨?_, ?_, ?_⟩
    · rw [oth _ _ _ _ (by omega), oth _ _ _ _ (by omega), same _ _ _ r (by omega)]
    · rw [oth _ _ _ _ (by omega), same _ _ _ (r.set _ _) (by omega)]
    · rw [same _ _ _ ((r.set _ _).set _ _) (by omega)]
  · have hj' : j < k := by omega
    obtain ⟨h1, h2, h3⟩ := h j hj'
    refine ⟨?_, ?_, ?_⟩ <;> rw [oth _ _ _ _ (by omega), oth _ _ _ _ (by omega), oth _ _ _ _ (by omega)] <;> assumption
theorem Room.new (w : World) (cs : Array Value) (t : TypeId) (n : Nat) (h : cs.size = n * 3) : Room (w.alloc (.cells cs t)) w.heap.size n := fun j hj => by
  have hh := heap_alloc_new w (.cells cs t)
  refine ⟨?_, ?_⟩
  · rw [cell_of_row _ _ j cs t _ hh]; simp; omega
  · exact frozen_of_row _ _ j cs t hh
theorem BoxAt.new (w : World) (cs : Array Value) (t : TypeId) (g : Nat → Fr) (n : Nat) (h : ∀ k, k < n → cs[k * 3]? = some (.int .i64 (g k).re) ∧ cs[k * 3 + 1]? = some (.int .i64 (g k).im) ∧ cs[k * 3 + 2]? = some (.int .i64 (g k).den)) : BoxAt (w.alloc (.cells cs t)) w.heap.size g n := fun k hk => by
  have hh := heap_alloc_new w (.cells cs t)
  rw [cell_of_row _ _ _ cs t _ hh, cell_of_row _ _ _ cs t _ hh, cell_of_row _ _ _ cs t _ hh]
  exact h k hk
theorem BoxAt.new' {w : World} {N n : Nat} {cs : Array Value} {t : TypeId} {g : Nat → Fr} (hN : w.heap.size = N) (h : ∀ k, k < n → cs[k * 3]? = some (.int .i64 (g k).re) ∧ cs[k * 3 + 1]? = some (.int .i64 (g k).im) ∧ cs[k * 3 + 2]? = some (.int .i64 (g k).den)) : BoxAt (w.alloc (.cells cs t)) N g n := hN ▸ BoxAt.new w cs t g n h
theorem Room.new' {w : World} {N n : Nat} {cs : Array Value} {t : TypeId} (hN : w.heap.size = N) (h : cs.size = n * 3) : Room (w.alloc (.cells cs t)) N n := hN ▸ Room.new w cs t n h
theorem BoxAt.alloc {w : World} {N n : Nat} {g : Nat → Fr} (h : BoxAt w N g n) (hN : N < w.heap.size) (o : Obj) : BoxAt (w.alloc o) N g n := h.below ((Below.refl w.heap.size w).alloc (Nat.le_refl _) o) hN
theorem Room.alloc {w : World} {N n : Nat} (h : Room w N n) (hN : N < w.heap.size) (o : Obj) : Room (w.alloc o) N n := h.below ((Below.refl w.heap.size w).alloc (Nat.le_refl _) o) hN
/-- The relation of the loop that copies n fractions. -/
structure TRel (W : World) (g : Nat → Fr) (n k : Nat) (wr : World) : Prop where
  le : k ≤ n
  below : Below W.heap.size W wr
  size : W.heap.size + 1 + 1 + 1 ≤ wr.heap.size
  src : BoxAt wr W.heap.size g n
  room : Room wr (W.heap.size + 1 + 1) n
  out : BoxAt wr (W.heap.size + 1 + 1) g k
  res : Room wr (W.heap.size + 1) n
/-- The cells of the first n fractions. -/
def cl (g : Nat → Fr) : Nat → List Value
  | 0 => []
  | n + 1 => cl g n ++ [.int .i64 (g n).re, .int .i64 (g n).im, .int .i64 (g n).den]
theorem cl_len (g : Nat → Fr) : ∀ n, (cl g n).length = n * 3
  | 0 => rfl
  | n + 1 => by simp [cl, cl_len g n]; omega
theorem BoxAt.range {w : World} {N : Nat} {g : Nat → Fr} : ∀ {n : Nat}, BoxAt w N g n → w.rangeAt N 0 (cl g n)
  | 0, _ => fun j v hv => by simp [cl] at hv
  | n + 1, h => fun j v hv => by
    have hl := cl_len g n
    rw [Nat.zero_add]
    have hv' : (cl g n ++ [.int .i64 (g n).re, .int .i64 (g n).im, .int .i64 (g n).den])[j]? = some v := hv
    by_cases hj : j < n * 3
    · rw [List.getElem?_append_left (by omega)] at hv'
      have := BoxAt.range (n := n) (fun k hk => h k (by omega)) j v hv'
      rwa [Nat.zero_add] at this
    · rw [List.getElem?_append_right (by omega), hl] at hv'
      obtain ⟨h1, h2, h3⟩ := h n (by omega)
      have hj3 : j - n * 3 < 3 := by
        rcases Nat.lt_or_ge (j - n * 3) 3 with h' | h'
        · exact h'
        · rw [List.getElem?_eq_none (by simp; omega)] at hv'; cases hv'
      have : j - n * 3 = 0 ∨ j - n * 3 = 1 ∨ j - n * 3 = 2 := by omega
      rcases this with e | e | e
      · rw [e] at hv'; rw [show j = n * 3 by omega, h1]; simpa using hv'
      · rw [e] at hv'; rw [show j = n * 3 + 1 by omega, h2]; simpa using hv'
      · rw [e] at hv'; rw [show j = n * 3 + 2 by omega, h3]; simpa using hv'
theorem Room.there {w : World} {N n : Nat} (h : Room w N n) : w.there N 0 (n * 3) := fun j hj => by rw [Nat.zero_add]; exact h j hj
theorem setCells_below (g : Nat) : ∀ (vs : List Value) (o : Nat) {B : Nat} {a w : World}, Below B a w → B ≤ g → Below B a (w.setCells g o vs)
  | [], _, _, _, _, h, _ => h
  | v :: vs, o, _, _, _, h, hg => setCells_below g vs (o + 1) (h.setCell (p := ⟨g, o, none⟩) hg v) hg
theorem rangeAt_new (w : World) (L : List Value) (t : TypeId) : (w.alloc (.cells L.toArray t)).rangeAt w.heap.size 0 L := fun j v hv => by
  rw [Nat.zero_add, cell_of_row _ _ j L.toArray t _ (heap_alloc_new w _)]; simpa using hv
theorem rangeAt_below {w w' : World} {N o B : Nat} {L : List Value} (h : w.rangeAt N o L) (hb : Below B w w') (hN : N < B) : w'.rangeAt N o L := fun j v hv => (hb.cell (p := ⟨N, _, none⟩) hN).trans (h j v hv)
end Go.Proofs.YtmcokdiopcpifaaDoor
namespace Go.Proofs.YtmcokdiopcpifaaDoor
open Go.RowKit Pol
theorem Room.own {w w1 : World} {B n R : Nat} (h : Room w B n) (hO : Own R w w1) (hB : B < w.heap.size) (hne : B ≠ R) : Room w1 B n := fun j hj => by
  rw [hO.cell hB hne, hO.frozen hB hne]; exact h j hj
theorem BoxAt.own {w w1 : World} {B n R : Nat} {g : Nat → Fr} (h : BoxAt w B g n) (hO : Own R w w1) (hB : B < w.heap.size) (hne : B ≠ R) : BoxAt w1 B g n := fun k hk => by
  rw [hO.cell hB hne, hO.cell hB hne, hO.cell hB hne]; exact h k hk
end Go.Proofs.YtmcokdiopcpifaaDoor
namespace Pol
def m4z : M4 := ⟨fz, fz, fz, fz⟩
def j2z : J2 := ⟨fz, fz⟩
def gAdj (m : M4) : M4 × Bool := if all4 vld m = true then (⟨(fMirror m.a).1, (fMirror m.c).1, (fMirror m.b).1, (fMirror m.d).1⟩, true) else (m4z, false)
theorem gAdj_no (m : M4) (h : (gAdj m).2 = false) : gAdj m = (m4z, false) := by
  unfold gAdj at h ⊢; split <;> simp_all
theorem gAdj_end (m : M4) : ((((false || !(fMirror m.a).2) || !(fMirror m.c).2) || !(fMirror m.b).2) || !(fMirror m.d).2) = !(gAdj m).2 ∧ ((gAdj m).2 = true → (⟨(fMirror m.a).1, (fMirror m.c).1, (fMirror m.b).1, (fMirror m.d).1⟩ : M4) = (gAdj m).1) := by
  simp only [fMirror_snd]
  unfold gAdj
  cases h : all4 vld m
  · refine ⟨?_, fun e => by cases e⟩
    cases ha : vld m.a <;> cases hb : vld m.b <;> cases hc : vld m.c <;> cases hd : vld m.d <;> simp
    exact absurd (all4_iff.2 ⟨ha, hb, hc, hd⟩) (by rw [h]; simp)
  · obtain ⟨ha, hb, hc, hd⟩ := all4_iff.1 h
    simp [ha, hb, hc, hd]
theorem low_im0 (re den : Int) : (low re 0 den).1.im = 0 := by
  unfold low; split
  · unfold cut; simp
  · rfl
theorem low_bd (re im den : Int) : -2000000000 ≤ (low re im den).1.re ∧ (low re im den).1.re ≤ 2000000000 := by
  unfold low; split
  · next h =>
    unfold lowB inP at h
    simp only [Bool.and_eq_true, decide_eq_true_eq] at h
    exact h.1.1
  · unfold fz; simp
end Pol
namespace Pol
/-- A value, or its zero where something on the way is none. -/
def gt {α : Type} (z : α) (e : Bool) (x : α) : α × Bool := if e = true then (z, false) else (x, true)
theorem gt_no {α : Type} {z : α} {e : Bool} {x : α} (h : (gt z e x).2 = false) : gt z e x = (z, false) := by unfold gt at h ⊢; cases e <;> simp_all
theorem gt_end {α : Type} (z : α) (e : Bool) (x : α) : e = !(gt z e x).2 ∧ ((gt z e x).2 = true → x = (gt z e x).1) := by unfold gt; cases e <;> simp
theorem pair_t {α : Type} {g : α × Bool} (h : g.2 = true) : g = (g.1, true) := by cases g; simp_all
def fIn (a b c d : Fr) : Fr × Bool := if ((fTimes a b).2 && (fTimes c d).2) = true then fAdd (fTimes a b).1 (fTimes c d).1 else (fz, false)
def eIn (e : Bool) (a b c d : Fr) : Bool := ((e || !(fTimes a b).2) || !(fTimes c d).2) || !(fAdd (fTimes a b).1 (fTimes c d).1).2
theorem eIn_eq (e : Bool) (a b c d : Fr) : eIn e a b c d = (e || !(fIn a b c d).2) := by
  unfold eIn fIn
  cases h1 : (fTimes a b).2
  · simp
  cases h2 : (fTimes c d).2
  · simp
  simp
theorem fIn_val {a b c d : Fr} (h : (fIn a b c d).2 = true) : (fAdd (fTimes a b).1 (fTimes c d).1).1 = (fIn a b c d).1 := by
  unfold fIn at h ⊢
  split
  · rfl
  · next hh => rw [if_neg hh] at h; cases h
end Pol
namespace Pol
theorem low_small {n den : Int} (h0 : -2000000000 ≤ n) (h1 : n ≤ 2000000000) (d0 : 1 ≤ den) (d1 : den ≤ 2000000000) : (low n 0 den).2 = true := by
  unfold low
  have hb : lowB n 0 den = true := by
    rw [lowB_vld _ _ _ d0, vld_iff]
    obtain ⟨e1, e2, e3⟩ := cut_mul n 0 den
    have hg := g3_pos n 0 den d0
    have hc := cut_den_pos n 0 den d0
    have hx := cut_g3 n 0 den d0
    refine ⟨?_, ?_, ⟨hc, ?_⟩, hx⟩
    · have : (cut n 0 den).re.natAbs ≤ n.natAbs := by
        have := congrArg Int.natAbs e1
        rw [Int.natAbs_mul] at this
        have h3 : 1 ≤ (g3 n 0 den).natAbs := by omega
        calc (cut n 0 den).re.natAbs = (cut n 0 den).re.natAbs * 1 := by omega
          _ ≤ (cut n 0 den).re.natAbs * (g3 n 0 den).natAbs := Nat.mul_le_mul (Nat.le_refl _) h3
          _ = n.natAbs := this
      omega
    · have : (cut n 0 den).im = 0 := by
        rcases Int.mul_eq_zero.1 e2 with h | h
        · exact h
        · omega
      omega
    · have : (cut n 0 den).den.natAbs ≤ den.natAbs := by
        have := congrArg Int.natAbs e3
        rw [Int.natAbs_mul] at this
        have h3 : 1 ≤ (g3 n 0 den).natAbs := by omega
        calc (cut n 0 den).den.natAbs = (cut n 0 den).den.natAbs * 1 := by omega
          _ ≤ (cut n 0 den).den.natAbs * (g3 n 0 den).natAbs := Nat.mul_le_mul (Nat.le_refl _) h3
          _ = den.natAbs := this
      omega
  rw [if_pos hb]
end Pol
namespace Go.Proofs.YtmcokdiopcpifaaDoor
open Go.RowKit Pol
/-- The first k pass; nothing that was there has turned. -/
def VRel (p : Fr → Bool) (g : Nat → Fr) (n : Nat) (W : World) (i : Value) (wr : World) : Prop := ∃ k : Nat, k ≤ n ∧ i = .int .i64 k ∧ Hid (apre p g k = true) ∧ Below W.heap.size W wr
theorem VRel.mk {p : Fr → Bool} {g : Nat → Fr} {n : Nat} {W wr : World} {i : Value} (k : Nat) (h : k ≤ n) (hi : i = .int .i64 k) (hp : apre p g k = true) (hb : Below W.heap.size W wr) : VRel p g n W i wr := ⟨k, h, hi, hp, hb⟩
theorem idx4_0 (m : M4) (w : World) : (Instr.index 39 (.agg #[.int .i64 m.a.re, .int .i64 m.a.im, .int .i64 m.a.den, .int .i64 m.b.re, .int .i64 m.b.im, .int .i64 m.b.den, .int .i64 m.c.re, .int .i64 m.c.im, .int .i64 m.c.den, .int .i64 m.d.re, .int .i64 m.d.im, .int .i64 m.d.den]) (.int .i64 0)).run Tryd.prog w = .ok (.agg #[.int .i64 m.a.re, .int .i64 m.a.im, .int .i64 m.a.den]) w := by kernel_rfl
theorem idx4_1 (m : M4) (w : World) : (Instr.index 39 (.agg #[.int .i64 m.a.re, .int .i64 m.a.im, .int .i64 m.a.den, .int .i64 m.b.re, .int .i64 m.b.im, .int .i64 m.b.den, .int .i64 m.c.re, .int .i64 m.c.im, .int .i64 m.c.den, .int .i64 m.d.re, .int .i64 m.d.im, .int .i64 m.d.den]) (.int .i64 1)).run Tryd.prog w = .ok (.agg #[.int .i64 m.b.re, .int .i64 m.b.im, .int .i64 m.b.den]) w := by kernel_rfl
theorem idx4_2 (m : M4) (w : World) : (Instr.index 39 (.agg #[.int .i64 m.a.re, .int .i64 m.a.im, .int .i64 m.a.den, .int .i64 m.b.re, .int .i64 m.b.im, .int .i64 m.b.den, .int .i64 m.c.re, .int .i64 m.c.im, .int .i64 m.c.den, .int .i64 m.d.re, .int .i64 m.d.im, .int .i64 m.d.den]) (.int .i64 2)).run Tryd.prog w = .ok (.agg #[.int .i64 m.c.re, .int .i64 m.c.im, .int .i64 m.c.den]) w := by kernel_rfl
theorem idx4_3 (m : M4) (w : World) : (Instr.index 39 (.agg #[.int .i64 m.a.re, .int .i64 m.a.im, .int .i64 m.a.den, .int .i64 m.b.re, .int .i64 m.b.im, .int .i64 m.b.den, .int .i64 m.c.re, .int .i64 m.c.im, .int .i64 m.c.den, .int .i64 m.d.re, .int .i64 m.d.im, .int .i64 m.d.den]) (.int .i64 3)).run Tryd.prog w = .ok (.agg #[.int .i64 m.d.re, .int .i64 m.d.im, .int .i64 m.d.den]) w := by kernel_rfl
set_option maxHeartbeats 4000000 in
theorem imatvalid_any (m : M4) (w : World) :
    Calls Tryd.prog 73 #[.agg #[.int .i64 m.a.re, .int .i64 m.a.im, .int .i64 m.a.den, .int .i64 m.b.re, .int .i64 m.b.im, .int .i64 m.b.den, .int .i64 m.c.re, .int .i64 m.c.im, .int .i64 m.c.den, .int .i64 m.d.re, .int .i64 m.d.im, .int .i64 m.d.den]] w fun e w' => e = .returned (.bool (all4 vld m)) ∧ Below w.heap.size w w' := by
  have i0 := idx4_0 m
  have i1 := idx4_1 m
  have i2 := idx4_2 m
  have i3 := idx4_3 m
  go_enter Tryd.func73, Tryd.ntmps73
  go_wp2
  go_loopw [7] (fun i wr => VRel vld m.get 4 w i wr) (fun i _ => (4 - intOf i).toNat)
  case atStart => exact VRel.mk 0 (by omega) rfl rfl (by (repeat' first | exact Below.refl _ _ | apply bl_alloc | apply bl_drewN | apply bl_drew | refine bl_trans ?_ (by assumption) | refine bl_set ?_ (by first | omega | (simp <;> omega)) _))
  case round =>
    obtain ⟨k, hk, rfl, HP, hb⟩ := hrel
    have h5 : k = 0 ∨ k = 1 ∨ k = 2 ∨ k = 3 ∨ k = 4 := by omega
    rcases h5 with rfl | rfl | rfl | rfl | rfl
    · cases h : vld m.a
      · go_wp2_with (go_at_call 86; (with_reducible refine (valid_fb h _).mono ?_); rintro e w1 ⟨rfl, hb1⟩)
        go_ret
        exact ⟨ret_bool (apre_no (k := 0) h 4 (by omega)).symm, by (repeat' first | exact Below.refl _ _ | apply bl_alloc | apply bl_drewN | apply bl_drew | refine bl_trans ?_ (by assumption) | refine bl_set ?_ (by first | omega | (simp <;> omega)) _)⟩
      · go_wp2_with (go_at_call 86; (with_reducible refine (valid_fb h _).mono ?_); rintro e w1 ⟨rfl, hb1⟩)
        go_roundw
        case rel => exact VRel.mk 1 (by omega) (by go_num) (apre_s HP.out h) (by (repeat' first | exact Below.refl _ _ | apply bl_alloc | apply bl_drewN | apply bl_drew | refine bl_trans ?_ (by assumption) | refine bl_set ?_ (by first | omega | (simp <;> omega)) _))
        case measure => simp [intOf]
    · cases h : vld m.b
      · go_wp2_with (go_at_call 86; (with_reducible refine (valid_fb h _).mono ?_); rintro e w1 ⟨rfl, hb1⟩)
        go_ret
        exact ⟨ret_bool (apre_no (k := 1) h 4 (by omega)).symm, by (repeat' first | exact Below.refl _ _ | apply bl_alloc | apply bl_drewN | apply bl_drew | refine bl_trans ?_ (by assumption) | refine bl_set ?_ (by first | omega | (simp <;> omega)) _)⟩
      · go_wp2_with (go_at_call 86; (with_reducible refine (valid_fb h _).mono ?_); rintro e w1 ⟨rfl, hb1⟩)
        go_roundw
        case rel => exact VRel.mk 2 (by omega) (by go_num) (apre_s HP.out h) (by (repeat' first | exact Below.refl _ _ | apply bl_alloc | apply bl_drewN | apply bl_drew | refine bl_trans ?_ (by assumption) | refine bl_set ?_ (by first | omega | (simp <;> omega)) _))
        case measure => simp [intOf]
    · cases h : vld m.c
      · go_wp2_with (go_at_call 86; (with_reducible refine (valid_fb h _).mono ?_); rintro e w1 ⟨rfl, hb1⟩)
        go_ret
        exact ⟨ret_bool (apre_no (k := 2) h 4 (by omega)).symm, by (repeat' first | exact Below.refl _ _ | apply bl_alloc | apply bl_drewN | apply bl_drew | refine bl_trans ?_ (by assumption) | refine bl_set ?_ (by first | omega | (simp <;> omega)) _)⟩
      · go_wp2_with (go_at_call 86; (with_reducible refine (valid_fb h _).mono ?_); rintro e w1 ⟨rfl, hb1⟩)
        go_roundw
        case rel => exact VRel.mk 3 (by omega) (by go_num) (apre_s HP.out h) (by (repeat' first | exact Below.refl _ _ | apply bl_alloc | apply bl_drewN | apply bl_drew | refine bl_trans ?_ (by assumption) | refine bl_set ?_ (by first | omega | (simp <;> omega)) _))
        case measure => simp [intOf]
    · cases h : vld m.d
      · go_wp2_with (go_at_call 86; (with_reducible refine (valid_fb h _).mono ?_); rintro e w1 ⟨rfl, hb1⟩)
        go_ret
        exact ⟨ret_bool (apre_no (k := 3) h 4 (by omega)).symm, by (repeat' first | exact Below.refl _ _ | apply bl_alloc | apply bl_drewN | apply bl_drew | refine bl_trans ?_ (by assumption) | refine bl_set ?_ (by first | omega | (simp <;> omega)) _)⟩
      · go_wp2_with (go_at_call 86; (with_reducible refine (valid_fb h _).mono ?_); rintro e w1 ⟨rfl, hb1⟩)
        go_roundw
        case rel => exact VRel.mk 4 (by omega) (by go_num) (apre_s HP.out h) (by (repeat' first | exact Below.refl _ _ | apply bl_alloc | apply bl_drewN | apply bl_drew | refine bl_trans ?_ (by assumption) | refine bl_set ?_ (by first | omega | (simp <;> omega)) _))
        case measure => simp [intOf]
    · go_wp2
      go_ret
      exact ⟨ret_bool HP.out.symm, by (repeat' first | exact Below.refl _ _ | apply bl_alloc | apply bl_drewN | apply bl_drew | refine bl_trans ?_ (by assumption) | refine bl_set ?_ (by first | omega | (simp <;> omega)) _)⟩
end Go.Proofs.YtmcokdiopcpifaaDoor
namespace Go.Proofs.YtmcokdiopcpifaaDoor
open Go.RowKit Pol
set_option maxHeartbeats 4000000 in
theorem imatdet_any (m : M4) (w : World) :
    Calls Tryd.prog 54 #[.agg #[.int .i64 m.a.re, .int .i64 m.a.im, .int .i64 m.a.den, .int .i64 m.b.re, .int .i64 m.b.im, .int .i64 m.b.den, .int .i64 m.c.re, .int .i64 m.c.im, .int .i64 m.c.den, .int .i64 m.d.re, .int .i64 m.d.im, .int .i64 m.d.den]] w (FrOut (gDet m) w) := by
  cases hg : (gDet m).2
  · have HE := Lib.hid ((ends (gDet_end m).1).1 hg)
    have HG := Lib.hid hg; clear hg
    go_enter Tryd.func54, Tryd.ntmps54
    go_wp2_with fail
    refine (imatvalid_any m _).mono ?_
    rintro e w1 ⟨rfl, hb⟩
    obtain ⟨hc, hf, hz⟩ := bcellk (B := w.heap.size + 1 + 1 + 1) hb (by first | omega | (simp <;> omega))
    have hsc : w1.cell? ⟨w.heap.size + 1 + 1, 0, none⟩ = some (.bool false) := by simp [hc, go_sem]
    have hsf : w1.frozen? ⟨w.heap.size + 1 + 1, 0, none⟩ = false := by simp [hf, go_sem]
    have hbw : Below w.heap.size w w1 := by (repeat' first | exact Below.refl _ _ | apply bl_alloc | apply bl_drewN | apply bl_drew | refine bl_trans ?_ (by assumption) | refine bl_set ?_ (by first | omega | (simp <;> omega)) _)
    have HB := Lib.hid hbw; clear hbw hb
    go_wp2_with fail
    refine (need_any (w.heap.size + 1 + 1) false (all4 vld m) w1 (by omega) hsc hsf).mono ?_
    rintro e w2 ho
    obtain ⟨rfl, hs⟩ := ho.fn
    clear hsc hsf
    have HB := Lib.hid (show Below w.heap.size w w2 from hs.own HB.out (by omega))
    have hc := hs.atc (w.heap.size) (by first | omega | (simp <;> omega)) (by omega); have hcr := hs.atc (w.heap.size + 1) (by first | omega | (simp <;> omega)) (by omega); have hfr := hs.atf (w.heap.size + 1) (by first | omega | (simp <;> omega)) (by omega); have hz : w.heap.size + 1 + 1 + 1 ≤ _ := Nat.le_trans (by first | omega | (simp <;> omega)) hs.size; have hsc := hs.cell; have hsf := hs.free
    clear ho hs
    go_wp2
    have hsc : w2.drew.cell? ⟨w.heap.size + 1 + 1, 0, none⟩ = _ := hsc
    have hsf : w2.drew.frozen? ⟨w.heap.size + 1 + 1, 0, none⟩ = _ := hsf
    go_region_held3 (fun w' => w'.cell? ⟨w.heap.size, 0, none⟩ = some (.int .i64 m.a.re) ∧ w'.cell? ⟨w.heap.size, 1, none⟩ = some (.int .i64 m.a.im) ∧ w'.cell? ⟨w.heap.size, 2, none⟩ = some (.int .i64 m.a.den) ∧ w'.cell? ⟨w.heap.size, 3, none⟩ = some (.int .i64 m.b.re) ∧ w'.cell? ⟨w.heap.size, 4, none⟩ = some (.int .i64 m.b.im) ∧ w'.cell? ⟨w.heap.size, 5, none⟩ = some (.int .i64 m.b.den) ∧ w'.cell? ⟨w.heap.size, 6, none⟩ = some (.int .i64 m.c.re) ∧ w'.cell? ⟨w.heap.size, 7, none⟩ = some (.int .i64 m.c.im) ∧ w'.cell? ⟨w.heap.size, 8, none⟩ = some (.int .i64 m.c.den) ∧ w'.cell? ⟨w.heap.size, 9, none⟩ = some (.int .i64 m.d.re) ∧ w'.cell? ⟨w.heap.size, 10, none⟩ = some (.int .i64 m.d.im) ∧ w'.cell? ⟨w.heap.size, 11, none⟩ = some (.int .i64 m.d.den))
      (first | go_keep | (simp [*]; done))
      (first
        | (go_at_call 80; (with_reducible refine (stimes_any _ _ _ _ _ (by first | omega | (simp <;> omega)) hsc hsf).mono ?_); rintro e w3 ho; obtain ⟨rfl, hs⟩ := ho.fn; have HB := Lib.hid (show Below w.heap.size w w3 from by first | exact hs.own HB.out (by omega) | exact hs.own HB.out.drew (by omega)); have hc := hs.atc (w.heap.size) (by first | omega | (simp <;> omega)) (by omega); have hcr := hs.atc (w.heap.size + 1) (by first | omega | (simp <;> omega)) (by omega); have hfr := hs.atf (w.heap.size + 1) (by first | omega | (simp <;> omega)) (by omega); have hz : w.heap.size + 1 + 1 + 1 ≤ _ := Nat.le_trans (by first | omega | (simp <;> omega)) hs.size; have hsc := hs.cell; have hsf := hs.free; clear ho hs)
        | (go_at_call 79; (with_reducible refine (sless_any _ _ _ _ _ (by first | omega | (simp <;> omega)) hsc hsf).mono ?_); rintro e w3 ho; obtain ⟨rfl, hs⟩ := ho.fn; have HB := Lib.hid (show Below w.heap.size w w3 from by first | exact hs.own HB.out (by omega) | exact hs.own HB.out.drew (by omega)); have hc := hs.atc (w.heap.size) (by first | omega | (simp <;> omega)) (by omega); have hcr := hs.atc (w.heap.size + 1) (by first | omega | (simp <;> omega)) (by omega); have hfr := hs.atf (w.heap.size + 1) (by first | omega | (simp <;> omega)) (by omega); have hz : w.heap.size + 1 + 1 + 1 ≤ _ := Nat.le_trans (by first | omega | (simp <;> omega)) hs.size; have hsc := hs.cell; have hsf := hs.free; clear ho hs)
        | (go_at_call 88; (with_reducible refine (gotFrac_no (w.heap.size + 1 + 1) _ _ (by omega) (hsc.trans (congrArg (fun x => some (Value.bool x)) HE.out))).mono ?_); rintro e w4 ⟨rfl, hb⟩; have HB := Lib.hid (show Below w.heap.size w w4 from HB.out.trans (hb.mono HB.out.size)); obtain ⟨hc, hf, hz⟩ := bcellk (B := w.heap.size + 1 + 1 + 1) hb (by first | omega | (simp <;> omega)); clear hb))
    go_wp2
    refine bodyPost_ret (v := .tuple #[.agg #[.int .i64 0, .int .i64 0, .int .i64 0], .bool false]) (by simp [results, Tryd.results54, go_sem, *]) rfl (FrOut.no (gDet_no m HG.out) ?_)
    exact ((HB.out.setCell (by simp) _).setCell (by simp) _).setCell (by simp) _
  · have HE := Lib.hid ((ends (gDet_end m).1).2 hg)
    have HV := Lib.hid ((gDet_end m).2 hg)
    have HG := Lib.hid hg; clear hg
    go_enter Tryd.func54, Tryd.ntmps54
    go_wp2_with fail
    refine (imatvalid_any m _).mono ?_
    rintro e w1 ⟨rfl, hb⟩
    obtain ⟨hc, hf, hz⟩ := bcellk (B := w.heap.size + 1 + 1 + 1) hb (by first | omega | (simp <;> omega))
    have hsc : w1.cell? ⟨w.heap.size + 1 + 1, 0, none⟩ = some (.bool false) := by simp [hc, go_sem]
    have hsf : w1.frozen? ⟨w.heap.size + 1 + 1, 0, none⟩ = false := by simp [hf, go_sem]
    have hbw : Below w.heap.size w w1 := by (repeat' first | exact Below.refl _ _ | apply bl_alloc | apply bl_drewN | apply bl_drew | refine bl_trans ?_ (by assumption) | refine bl_set ?_ (by first | omega | (simp <;> omega)) _)
    have HB := Lib.hid hbw; clear hbw hb
    go_wp2_with fail
    refine (need_any (w.heap.size + 1 + 1) false (all4 vld m) w1 (by omega) hsc hsf).mono ?_
    rintro e w2 ho
    obtain ⟨rfl, hs⟩ := ho.fn
    clear hsc hsf
    have HB := Lib.hid (show Below w.heap.size w w2 from hs.own HB.out (by omega))
    have hc := hs.atc (w.heap.size) (by first | omega | (simp <;> omega)) (by omega); have hcr := hs.atc (w.heap.size + 1) (by first | omega | (simp <;> omega)) (by omega); have hfr := hs.atf (w.heap.size + 1) (by first | omega | (simp <;> omega)) (by omega); have hz : w.heap.size + 1 + 1 + 1 ≤ _ := Nat.le_trans (by first | omega | (simp <;> omega)) hs.size; have hsc := hs.cell; have hsf := hs.free
    clear ho hs
    go_wp2
    have hsc : w2.drew.cell? ⟨w.heap.size + 1 + 1, 0, none⟩ = _ := hsc
    have hsf : w2.drew.frozen? ⟨w.heap.size + 1 + 1, 0, none⟩ = _ := hsf
    go_region_held3 (fun w' => w'.cell? ⟨w.heap.size, 0, none⟩ = some (.int .i64 m.a.re) ∧ w'.cell? ⟨w.heap.size, 1, none⟩ = some (.int .i64 m.a.im) ∧ w'.cell? ⟨w.heap.size, 2, none⟩ = some (.int .i64 m.a.den) ∧ w'.cell? ⟨w.heap.size, 3, none⟩ = some (.int .i64 m.b.re) ∧ w'.cell? ⟨w.heap.size, 4, none⟩ = some (.int .i64 m.b.im) ∧ w'.cell? ⟨w.heap.size, 5, none⟩ = some (.int .i64 m.b.den) ∧ w'.cell? ⟨w.heap.size, 6, none⟩ = some (.int .i64 m.c.re) ∧ w'.cell? ⟨w.heap.size, 7, none⟩ = some (.int .i64 m.c.im) ∧ w'.cell? ⟨w.heap.size, 8, none⟩ = some (.int .i64 m.c.den) ∧ w'.cell? ⟨w.heap.size, 9, none⟩ = some (.int .i64 m.d.re) ∧ w'.cell? ⟨w.heap.size, 10, none⟩ = some (.int .i64 m.d.im) ∧ w'.cell? ⟨w.heap.size, 11, none⟩ = some (.int .i64 m.d.den))
      (first | go_keep | (simp [*]; done))
      (first
        | (go_at_call 80; (with_reducible refine (stimes_any _ _ _ _ _ (by first | omega | (simp <;> omega)) hsc hsf).mono ?_); rintro e w3 ho; obtain ⟨rfl, hs⟩ := ho.fn; have HB := Lib.hid (show Below w.heap.size w w3 from by first | exact hs.own HB.out (by omega) | exact hs.own HB.out.drew (by omega)); have hc := hs.atc (w.heap.size) (by first | omega | (simp <;> omega)) (by omega); have hcr := hs.atc (w.heap.size + 1) (by first | omega | (simp <;> omega)) (by omega); have hfr := hs.atf (w.heap.size + 1) (by first | omega | (simp <;> omega)) (by omega); have hz : w.heap.size + 1 + 1 + 1 ≤ _ := Nat.le_trans (by first | omega | (simp <;> omega)) hs.size; have hsc := hs.cell; have hsf := hs.free; clear ho hs)
        | (go_at_call 79; (with_reducible refine (sless_any _ _ _ _ _ (by first | omega | (simp <;> omega)) hsc hsf).mono ?_); rintro e w3 ho; obtain ⟨rfl, hs⟩ := ho.fn; have HB := Lib.hid (show Below w.heap.size w w3 from by first | exact hs.own HB.out (by omega) | exact hs.own HB.out.drew (by omega)); have hc := hs.atc (w.heap.size) (by first | omega | (simp <;> omega)) (by omega); have hcr := hs.atc (w.heap.size + 1) (by first | omega | (simp <;> omega)) (by omega); have hfr := hs.atf (w.heap.size + 1) (by first | omega | (simp <;> omega)) (by omega); have hz : w.heap.size + 1 + 1 + 1 ≤ _ := Nat.le_trans (by first | omega | (simp <;> omega)) hs.size; have hsc := hs.cell; have hsf := hs.free; clear ho hs)
        | (go_at_call 88; (with_reducible refine (gotFrac_yes (w.heap.size + 1 + 1) _ _ (by omega) (hsc.trans (congrArg (fun x => some (Value.bool x)) HE.out))).mono ?_); rintro e w4 ⟨rfl, hb⟩; have HB := Lib.hid (show Below w.heap.size w w4 from HB.out.trans (hb.mono HB.out.size)); obtain ⟨hc, hf, hz⟩ := bcellk (B := w.heap.size + 1 + 1 + 1) hb (by first | omega | (simp <;> omega)); clear hb))
    go_wp2
    refine bodyPost_ret (v := .tuple #[.agg #[.int .i64 (fLess (fTimes m.a m.d).1 (fTimes m.b m.c).1).1.re, .int .i64 (fLess (fTimes m.a m.d).1 (fTimes m.b m.c).1).1.im, .int .i64 (fLess (fTimes m.a m.d).1 (fTimes m.b m.c).1).1.den], .bool true]) (by simp [results, Tryd.results54, go_sem, *]) rfl (FrOut.yes HG.out HV.out ?_)
    exact ((HB.out.setCell (by simp) _).setCell (by simp) _).setCell (by simp) _
end Go.Proofs.YtmcokdiopcpifaaDoor
