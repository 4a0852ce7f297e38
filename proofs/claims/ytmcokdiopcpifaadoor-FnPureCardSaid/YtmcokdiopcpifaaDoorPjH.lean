/- Contracts of the reference: ranges, greatest common divisors, lowest terms, valid fractions. -/
import Derived.Test.YtmcokdiopcpifaaDoorPjG1
set_option maxRecDepth 100000
namespace Go.Proofs.YtmcokdiopcpifaaDoor
open Go.RowKit Pol
theorem l6In_any (n lo hi : Int) (w : World) :
    Calls Tryd.prog 61 #[.int .i64 n, .int .i64 lo, .int .i64 hi] w fun e w' => e = .returned (.bool (wi n lo hi)) ∧ w = w' := by
  unfold wi
  go_enter Tryd.func61, Tryd.ntmps61
  go_wp2
  all_goals go_ret
  all_goals (simp [*]; try omega)
theorem l6In_b {n lo hi : Int} {b : Bool} (h : wi n lo hi = b) (w : World) :
    Calls Tryd.prog 61 #[.int .i64 n, .int .i64 lo, .int .i64 hi] w fun e w' => e = .returned (.bool b) ∧ w = w' :=
  (l6In_any n lo hi w).mono fun _ _ g => ⟨by rw [← h]; exact g.1, g.2⟩
theorem l6In_q {n lo hi : Int} {b : Bool} (h : wi n lo hi = b) (w : World) (k : Nat) :
    Calls Tryd.prog 61 #[.int .i64 n, .int .i64 lo, .int .i64 hi] (w.drewN k) fun e w' => e = .returned (.bool b) ∧ ∃ m, w' = w.drewN m :=
  (l6In_any n lo hi (w.drewN k)).mono fun _ _ g => ⟨by rw [← h]; exact g.1, k, g.2.symm⟩
theorem l2In_any (n : Int) (w : World) :
    Calls Tryd.prog 115 #[.int .i64 n] w fun e w' => e = .returned (.bool (wi n (-2000000000) 2000000000)) ∧ w = w' := by
  go_enter Tryd.func115, Tryd.ntmps115
  go_wp2_with (go_at_call 61; (with_reducible refine (l6In_any _ _ _ _).mono ?_); rintro e w' ⟨rfl, rfl⟩)
  go_ret
  exact ⟨rfl, rfl⟩
theorem l2In_q {n : Int} {b : Bool} (h : wi n (-2000000000) 2000000000 = b) (w : World) (k : Nat) :
    Calls Tryd.prog 115 #[.int .i64 n] (w.drewN k) fun e w' => e = .returned (.bool b) ∧ ∃ m, w' = w.drewN m :=
  (l2In_any n (w.drewN k)).mono fun _ _ g => ⟨by rw [← h]; exact g.1, k, g.2.symm⟩
theorem tmod_bd (c d : Int) (h0 : d ≠ 0) : (c.tmod d).natAbs < d.natAbs := by
  rw [Int.natAbs_tmod]; exact Nat.mod_lt _ (by omega)
theorem l2Gcd_any (a b : Int) (ha : -9000000000000000000 ≤ a) (ha' : a ≤ 9000000000000000000) (hb : -9000000000000000000 ≤ b) (hb' : b ≤ 9000000000000000000) (w : World) :
    Calls Tryd.prog 116 #[.int .i64 a, .int .i64 b] w fun e w' => e = .returned (.int .i64 (gc a b)) ∧ w = w' := by
  go_enter Tryd.func116, Tryd.ntmps116
  go_wp2
  go_loop [0, 1] (fun x y => ∃ c d : Int, x = .int .i64 c ∧ y = .int .i64 d ∧ -9000000000000000000 ≤ c ∧ c ≤ 9000000000000000000 ∧ -9000000000000000000 ≤ d ∧ d ≤ 9000000000000000000 ∧ Hid (gc c d = gc a b))
    (fun _ y => (intOf y).natAbs)
  case atStart => exact ⟨a, b, rfl, rfl, ha, ha', hb, hb', rfl⟩
  case round =>
    obtain ⟨c, d, rfl, rfl, hc, hc', hd, hd', HG⟩ := hrel
    by_cases h0 : d = 0
    · subst h0
      go_wp2
      all_goals go_ret
      all_goals exact ⟨ret_int (by have := HG.out; rw [gc_zero] at this; omega), rfl⟩
    · have hne : (d != 0) = true := by simp [h0]
      have ht := tmod_bd c d h0
      go_wp2
      have HG2 : gc d (c.tmod d) = gc a b := by rw [gc_tmod]; exact HG.out
      go_round
      case rel => exact ⟨d, c.tmod d, rfl, rfl, hd, hd', by clear hne; omega, by clear hne; omega, HG2⟩
      case measure => simpa [intOf] using ht
theorem l2Gcd_q (a b c : Int) (h : gc a b = c) (ha : -9000000000000000000 ≤ a) (ha' : a ≤ 9000000000000000000) (hb : -9000000000000000000 ≤ b) (hb' : b ≤ 9000000000000000000) (w : World) (k : Nat) :
    Calls Tryd.prog 116 #[.int .i64 a, .int .i64 b] (w.drewN k) fun e w' => e = .returned (.int .i64 c) ∧ ∃ m, w' = w.drewN m :=
  (l2Gcd_any a b ha ha' hb hb' (w.drewN k)).mono fun _ _ g => ⟨by rw [← h]; exact g.1, k, g.2.symm⟩
set_option maxHeartbeats 1000000 in
theorem svalid_any (x y z : Int) (w : World) :
    Calls Tryd.prog 67 #[.agg #[.int .i64 x, .int .i64 y, .int .i64 z]] w fun e w' => e = .returned (.bool (vld ⟨x, y, z⟩)) ∧ Below w.heap.size w w' := by
  rw [vld_wi]
  cases h1 : wi x (-2000000000) 2000000000
  · go_enter Tryd.func67, Tryd.ntmps67
    go_wp2
    go_quiet ((go_at_call 115; with_reducible exact l2In_q h1 _ _))
    go_wp2
    go_ret
    exact ⟨rfl, below_box _ _ _⟩
  cases h2 : wi y (-2000000000) 2000000000
  · go_enter Tryd.func67, Tryd.ntmps67
    go_wp2
    go_quiet ((go_at_call 115; first | with_reducible exact l2In_q h1 _ _ | with_reducible exact l2In_q h2 _ _))
    go_wp2
    go_ret
    exact ⟨rfl, below_box _ _ _⟩
  cases h3 : wi z 1 2000000000
  · go_enter Tryd.func67, Tryd.ntmps67
    go_wp2
    go_quiet (first | (go_at_call 115; first | with_reducible exact l2In_q h1 _ _ | with_reducible exact l2In_q h2 _ _) | (go_at_call 61; with_reducible exact l6In_q h3 _ _))
    go_wp2
    go_ret
    exact ⟨rfl, below_box _ _ _⟩
  obtain ⟨a1, a2⟩ := wi_true h1
  obtain ⟨b1, b2⟩ := wi_true h2
  obtain ⟨c1, c2⟩ := wi_true h3
  have q1 := gc_nonneg z x
  have q2 := gc_le z x 2000000000 (by omega) c2 a1 a2
  have HG : Hid (gc (gc z x) y = g3 x y z) := g3_turn x y z
  go_enter Tryd.func67, Tryd.ntmps67
  go_wp2
  go_quiet (first
    | (go_at_call 115; first | with_reducible exact l2In_q h1 _ _ | with_reducible exact l2In_q h2 _ _)
    | (go_at_call 61; with_reducible exact l6In_q h3 _ _)
    | (go_at_call 116; first | with_reducible exact l2Gcd_q _ _ _ HG.out (by omega) (by omega) (by omega) (by omega) _ _ | with_reducible exact l2Gcd_q _ _ _ rfl (by omega) (by omega) (by omega) (by omega) _ _))
  go_wp2
  go_ret
  exact ⟨rfl, below_box _ _ _⟩
theorem svalid_fr (a : Fr) (w : World) :
    Calls Tryd.prog 67 #[.agg #[.int .i64 a.re, .int .i64 a.im, .int .i64 a.den]] w fun e w' => e = .returned (.bool (vld a)) ∧ Below w.heap.size w w' := svalid_any a.re a.im a.den w
theorem svalid_fb {a : Fr} {b : Bool} (h : vld a = b) (w : World) :
    Calls Tryd.prog 67 #[.agg #[.int .i64 a.re, .int .i64 a.im, .int .i64 a.den]] w fun e w' => e = .returned (.bool b) ∧ Below w.heap.size w w' := h ▸ svalid_fr a w
theorem svalid_b {x y z : Int} {b : Bool} (h : vld ⟨x, y, z⟩ = b) (w : World) :
    Calls Tryd.prog 67 #[.agg #[.int .i64 x, .int .i64 y, .int .i64 z]] w fun e w' => e = .returned (.bool b) ∧ Below w.heap.size w w' := h ▸ svalid_any x y z w
set_option maxHeartbeats 1000000 in
theorem l2Low_any (re im den : Int) (r0 : -9000000000000000000 ≤ re) (r1 : re ≤ 9000000000000000000) (i0 : -9000000000000000000 ≤ im) (i1 : im ≤ 9000000000000000000) (d0 : 1 ≤ den) (d1 : den ≤ 9000000000000000000) (w : World) :
    Calls Tryd.prog 117 #[.int .i64 re, .int .i64 im, .int .i64 den] w (FrOut (low re im den) w) := by
  have q1 := gc_nonneg den re
  have q2 := gc_le den re 9000000000000000000 (by omega) d1 r0 r1
  have gp := g3_pos re im den d0
  have gl : g3 re im den ≤ 9000000000000000000 := by rw [← g3_turn]; exact gc_le (gc den re) im 9000000000000000000 (by omega) q2 i0 i1
  have HG : Hid (gc (gc den re) im = g3 re im den) := g3_turn re im den
  have zp : Hid (den.tdiv (g3 re im den) = den / g3 re im den) := Int.tdiv_eq_ediv_of_nonneg (by omega)
  have zq0 : 0 ≤ den / g3 re im den := Int.ediv_nonneg (by omega) (by omega)
  have zq1 : den / g3 re im den ≤ 9000000000000000000 := Int.le_trans (Int.ediv_le_self _ (by omega)) d1
  cases h1 : vld ⟨re.tdiv (g3 re im den), im.tdiv (g3 re im den), den / g3 re im den⟩
  · have HL : Hid (low re im den = (⟨0, 0, 0⟩, false)) := by
      show _ = _; unfold low; rw [lowB_vld _ _ _ d0]; unfold cut; rw [zp.out, h1]; rfl
    generalize hg : g3 re im den = g at *
    have Hg := Lib.hid hg; clear hg
    go_enter Tryd.func117, Tryd.ntmps117
    go_wp2_with (first
      | (go_at_call 116; (with_reducible refine (l2Gcd_any den re (by omega) d1 r0 r1 _).mono ?_); rintro e w' ⟨rfl, rfl⟩)
      | (go_at_call 116; (with_reducible refine (l2Gcd_any (gc den re) im (by omega) q2 i0 i1 _).mono ?_); rintro e w' ⟨rfl, rfl⟩; rw [HG.out]))
    go_region
    go_wp2_with (go_at_call 67; (with_reducible refine (svalid_b h1 _).mono ?_); rintro e w' ⟨rfl, hb⟩; obtain ⟨hc, hf, hz⟩ := bcellk (B := w.heap.size + 1 + 1) hb (by first | omega | (simp <;> omega)))
    refine bodyPost_ret (v := .tuple #[.agg #[.int .i64 0, .int .i64 0, .int .i64 0], .bool false]) (by simp [results, Tryd.results117, go_sem, *]) rfl (FrOut.mk HL rfl ?_)
    (repeat' first | exact Below.refl _ _ | apply bl_alloc | apply bl_drewN | apply bl_drew | refine bl_trans ?_ (by assumption) | refine bl_set ?_ (by first | omega | (simp <;> omega)) _)
  · have HL : Hid (low re im den = (⟨re.tdiv (g3 re im den), im.tdiv (g3 re im den), den / g3 re im den⟩, true)) := by
      show _ = _; unfold low; rw [lowB_vld _ _ _ d0]; unfold cut; rw [zp.out, h1]; rfl
    generalize hg : g3 re im den = g at *
    have Hg := Lib.hid hg; clear hg
    go_enter Tryd.func117, Tryd.ntmps117
    go_wp2_with (first
      | (go_at_call 116; (with_reducible refine (l2Gcd_any den re (by omega) d1 r0 r1 _).mono ?_); rintro e w' ⟨rfl, rfl⟩)
      | (go_at_call 116; (with_reducible refine (l2Gcd_any (gc den re) im (by omega) q2 i0 i1 _).mono ?_); rintro e w' ⟨rfl, rfl⟩; rw [HG.out]))
    go_region
    go_wp2_with (go_at_call 67; (with_reducible refine (svalid_b h1 _).mono ?_); rintro e w' ⟨rfl, hb⟩; obtain ⟨hc, hf, hz⟩ := bcellk (B := w.heap.size + 1 + 1) hb (by first | omega | (simp <;> omega)))
    refine bodyPost_ret (v := .tuple #[.agg #[.int .i64 (re.tdiv g), .int .i64 (im.tdiv g), .int .i64 (den / g)], .bool true]) (by simp [results, Tryd.results117, go_sem, *]) rfl (FrOut.mk HL rfl ?_)
    (repeat' first | exact Below.refl _ _ | apply bl_alloc | apply bl_drewN | apply bl_drew | refine bl_trans ?_ (by assumption) | refine bl_set ?_ (by first | omega | (simp <;> omega)) _)
end Go.Proofs.YtmcokdiopcpifaaDoor
