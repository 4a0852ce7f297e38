/- Contracts: comparisons, light, pure light: both sides. -/
import Derived.Test.YtmcokdiopcpifaaDoorPjS
import Derived.Test.YtmcokdiopcpifaaDoorPjS2
set_option maxRecDepth 100000
namespace Go.Proofs.YtmcokdiopcpifaaDoor
open Go.RowKit Pol
/-- What a call hands back that makes a number and a Bool. -/
def CmpOut (g : Int × Bool) (w : World) (e : Ending) (w' : World) : Prop := e = .returned (.tuple #[.int .i64 g.1, .bool g.2]) ∧ Below w.heap.size w w'
theorem CmpOut.fn {g : Int × Bool} {w w' : World} {e : Ending} (h : CmpOut g w e w') : e = .returned (.tuple #[.int .i64 g.1, .bool g.2]) ∧ Below w.heap.size w w' := h
theorem CmpOut.is {g : Int × Bool} {x : Int} {b : Bool} {w w' : World} (h : g = (x, b)) (hb : Below w.heap.size w w') : CmpOut g w (.returned (.tuple #[.int .i64 x, .bool b])) w' := ⟨by rw [h], hb⟩
theorem CmpOut.self {g : Int × Bool} {w w' : World} (hb : Below w.heap.size w w') : CmpOut g w (.returned (.tuple #[.int .i64 g.1, .bool g.2])) w' := ⟨rfl, hb⟩
theorem fCmp_no1 {a b : Fr} (h : realB a = false) : fCmp a b = (0, false) := by unfold fCmp; rw [h]; rfl
theorem fCmp_no2 {a b : Fr} (h : realB b = false) : fCmp a b = (0, false) := by unfold fCmp; rw [h]; simp
theorem fCmp_lt {a b : Fr} (h1 : realB a = true) (h2 : realB b = true) (h : a.re * b.den - b.re * a.den < 0) : fCmp a b = (-1, true) := by unfold fCmp sgn; rw [h1, h2, if_pos h]; rfl
theorem fCmp_gt {a b : Fr} (h1 : realB a = true) (h2 : realB b = true) (h : 0 < a.re * b.den - b.re * a.den) : fCmp a b = (1, true) := by unfold fCmp sgn; rw [h1, h2, if_neg (show ¬ (a.re * b.den - b.re * a.den < 0) by omega), if_pos h]; rfl
theorem fCmp_eq {a b : Fr} (h1 : realB a = true) (h2 : realB b = true) (h : a.re * b.den - b.re * a.den = 0) : fCmp a b = (0, true) := by unfold fCmp sgn; rw [h1, h2, if_neg (show ¬ (a.re * b.den - b.re * a.den < 0) by omega), if_neg (show ¬ (0 < a.re * b.den - b.re * a.den) by omega)]; rfl
theorem realB_bd {a : Fr} (h : realB a = true) : vld a = true ∧ (-2000000000 ≤ a.re ∧ a.re ≤ 2000000000) ∧ (1 ≤ a.den ∧ a.den ≤ 2000000000) := by
  unfold realB at h
  simp only [Bool.and_eq_true, decide_eq_true_eq] at h
  have := (vld_iff _).1 h.1
  exact ⟨h.1, this.1, this.2.2.1⟩
set_option maxHeartbeats 4000000 in
theorem icmp_any (a b : Fr) (w : World) :
    Calls Tryd.prog 130 #[.agg #[.int .i64 a.re, .int .i64 a.im, .int .i64 a.den], .agg #[.int .i64 b.re, .int .i64 b.im, .int .i64 b.den]] w (CmpOut (fCmp a b) w) := by
  cases ha : realB a
  · have HG := Lib.hid (fCmp_no1 (b := b) ha)
    go_enter Tryd.func130, Tryd.ntmps130
    go_wp2_with (go_at_call 68; (with_reducible refine (realOk_b ha _).mono ?_); rintro e w1 ⟨rfl, hb⟩; have hb' := hb; obtain ⟨hc, hf, hz⟩ := bcellk (B := w.heap.size + 1 + 1) hb (by first | omega | (simp <;> omega)))
    refine bodyPost_ret (v := .tuple #[.int .i64 0, .bool false]) (by simp [results, Tryd.results130, go_sem]) rfl (CmpOut.is HG.out ?_)
    (repeat' first | exact Below.refl _ _ | apply bl_alloc | apply bl_drewN | apply bl_drew | refine bl_trans ?_ (by assumption) | refine bl_set ?_ (by first | omega | (simp <;> omega)) _)
  · cases hb0 : realB b
    · have HG := Lib.hid (fCmp_no2 (a := a) hb0)
      go_enter Tryd.func130, Tryd.ntmps130
      go_wp2_with (go_at_call 68; (first | (with_reducible refine (realOk_b ha _).mono ?_) | (with_reducible refine (realOk_b hb0 _).mono ?_)); rintro e w1 ⟨rfl, hb⟩; have hb' := hb; obtain ⟨hc, hf, hz⟩ := bcellk (B := w.heap.size + 1 + 1) hb (by first | omega | (simp <;> omega)))
      refine bodyPost_ret (v := .tuple #[.int .i64 0, .bool false]) (by simp [results, Tryd.results130, go_sem]) rfl (CmpOut.is HG.out ?_)
      (repeat' first | exact Below.refl _ _ | apply bl_alloc | apply bl_drewN | apply bl_drew | refine bl_trans ?_ (by assumption) | refine bl_set ?_ (by first | omega | (simp <;> omega)) _)
    · have hm : -8000000000000000000 ≤ a.re * b.den - b.re * a.den ∧ a.re * b.den - b.re * a.den ≤ 8000000000000000000 := by
        obtain ⟨va, ⟨p1, p2⟩, p3, p4⟩ := realB_bd ha
        obtain ⟨vb, ⟨r1, r2⟩, r3, r4⟩ := realB_bd hb0
        obtain ⟨m1, m2⟩ := mul_bd (a := a.re) (b := b.den) p1 p2 (by omega) r4
        obtain ⟨m3, m4⟩ := mul_bd (a := b.re) (b := a.den) r1 r2 (by omega) p4
        omega
      obtain ⟨va, ⟨p1, p2⟩, p3, p4⟩ := realB_bd ha
      obtain ⟨vb, ⟨r1, r2⟩, r3, r4⟩ := realB_bd hb0
      obtain ⟨m1, m2⟩ := mul_bd (a := a.re) (b := b.den) p1 p2 (by omega) r4
      obtain ⟨m3, m4⟩ := mul_bd (a := b.re) (b := a.den) r1 r2 (by omega) p4
      obtain ⟨m5, m6⟩ := hm
      clear va vb p1 p2 p3 p4 r1 r2 r3 r4
      rcases Int.lt_trichotomy (a.re * b.den - b.re * a.den) 0 with hd | hd | hd
      · have HG := Lib.hid (fCmp_lt ha hb0 hd)
        go_enter Tryd.func130, Tryd.ntmps130
        go_wp2_with (go_at_call 68; (first | (with_reducible refine (realOk_b ha _).mono ?_) | (with_reducible refine (realOk_b hb0 _).mono ?_)); rintro e w1 ⟨rfl, hb⟩; have hb' := hb; obtain ⟨hc, hf, hz⟩ := bcellk (B := w.heap.size + 1 + 1) hb (by first | omega | (simp <;> omega)))
        refine bodyPost_ret (v := .tuple #[.int .i64 (-1), .bool true]) (by simp [results, Tryd.results130, go_sem]) rfl (CmpOut.is HG.out ?_)
        (repeat' first | exact Below.refl _ _ | apply bl_alloc | apply bl_drewN | apply bl_drew | refine bl_trans ?_ (by assumption) | refine bl_set ?_ (by first | omega | (simp <;> omega)) _)
      · have HG := Lib.hid (fCmp_eq ha hb0 hd)
        have hd1 : ¬ (a.re * b.den - b.re * a.den < 0) := by omega
        have hd2 : ¬ (0 < a.re * b.den - b.re * a.den) := by omega
        clear hd
        go_enter Tryd.func130, Tryd.ntmps130
        go_wp2_with (go_at_call 68; (first | (with_reducible refine (realOk_b ha _).mono ?_) | (with_reducible refine (realOk_b hb0 _).mono ?_)); rintro e w1 ⟨rfl, hb⟩; have hb' := hb; obtain ⟨hc, hf, hz⟩ := bcellk (B := w.heap.size + 1 + 1) hb (by first | omega | (simp <;> omega)))
        refine bodyPost_ret (v := .tuple #[.int .i64 0, .bool true]) (by simp [results, Tryd.results130, go_sem]) rfl (CmpOut.is HG.out ?_)
        (repeat' first | exact Below.refl _ _ | apply bl_alloc | apply bl_drewN | apply bl_drew | refine bl_trans ?_ (by assumption) | refine bl_set ?_ (by first | omega | (simp <;> omega)) _)
      · have HG := Lib.hid (fCmp_gt ha hb0 hd)
        have hd1 : ¬ (a.re * b.den - b.re * a.den < 0) := by omega
        go_enter Tryd.func130, Tryd.ntmps130
        go_wp2_with (go_at_call 68; (first | (with_reducible refine (realOk_b ha _).mono ?_) | (with_reducible refine (realOk_b hb0 _).mono ?_)); rintro e w1 ⟨rfl, hb⟩; have hb' := hb; obtain ⟨hc, hf, hz⟩ := bcellk (B := w.heap.size + 1 + 1) hb (by first | omega | (simp <;> omega)))
        refine bodyPost_ret (v := .tuple #[.int .i64 1, .bool true]) (by simp [results, Tryd.results130, go_sem]) rfl (CmpOut.is HG.out ?_)
        (repeat' first | exact Below.refl _ _ | apply bl_alloc | apply bl_drewN | apply bl_drew | refine bl_trans ?_ (by assumption) | refine bl_set ?_ (by first | omega | (simp <;> omega)) _)
set_option maxHeartbeats 1000000 in
theorem sgn_any (n : Int) (w : World) :
    Calls Tryd.prog 142 #[.int .i64 n] w fun e w' => e = .returned (.int .i64 (sgn n)) ∧ Below w.heap.size w w' := by
  rcases Int.lt_trichotomy n 0 with hd | hd | hd
  · have HG : Hid (sgn n = -1) := by show _ = _; unfold sgn; rw [if_pos hd]
    have h1 : min 1 n = n := by omega
    have h2 : max (-1) n = -1 := by omega
    go_enter Tryd.func142, Tryd.ntmps142
    go_wp2
    go_ret
    exact ⟨by rw [HG.out]; first | rfl | (simp [h1]; done) | (simp [h1]; omega), by (repeat' first | exact Below.refl _ _ | apply bl_alloc | apply bl_drewN | apply bl_drew | refine bl_trans ?_ (by assumption) | refine bl_set ?_ (by first | omega | (simp <;> omega)) _)⟩
  · subst hd
    go_enter Tryd.func142, Tryd.ntmps142
    go_wp2
    go_ret
    exact ⟨rfl, by (repeat' first | exact Below.refl _ _ | apply bl_alloc | apply bl_drewN | apply bl_drew | refine bl_trans ?_ (by assumption) | refine bl_set ?_ (by first | omega | (simp <;> omega)) _)⟩
  · have HG : Hid (sgn n = 1) := by show _ = _; unfold sgn; rw [if_neg (by omega), if_pos hd]
    have h1 : min 1 n = 1 := by omega
    go_enter Tryd.func142, Tryd.ntmps142
    go_wp2
    go_ret
    exact ⟨by rw [HG.out]; first | rfl | (simp [h1]; done) | (simp [h1]; omega), by (repeat' first | exact Below.refl _ _ | apply bl_alloc | apply bl_drewN | apply bl_drew | refine bl_trans ?_ (by assumption) | refine bl_set ?_ (by first | omega | (simp <;> omega)) _)⟩
set_option maxHeartbeats 4000000 in
theorem scmp_any (a b : Fr) (w : World) :
    Calls Tryd.prog 132 #[.agg #[.int .i64 a.re, .int .i64 a.im, .int .i64 a.den], .agg #[.int .i64 b.re, .int .i64 b.im, .int .i64 b.den]] w (CmpOut (fCmp a b) w) := by
  have ra : ∀ x : Fr, realB x = true ↔ vld x = true ∧ x.im = 0 := fun x => by unfold realB; simp
  cases va : vld a
  · have HG : Hid (fCmp a b = (0, false)) := fCmp_no1 (by cases h : realB a; rfl; rw [((ra a).1 h).1] at va; cases va)
    clear ra
    go_enter Tryd.func132, Tryd.ntmps132
    go_wp2_with (go_at_call 67; (with_reducible refine (svalid_fb va _).mono ?_); rintro e w1 ⟨rfl, hb⟩; have hb' := hb; obtain ⟨hc, hf, hz⟩ := bcellk (B := w.heap.size + 1 + 1) hb (by first | omega | (simp <;> omega)))
    refine bodyPost_ret (v := .tuple #[.int .i64 0, .bool false]) (by simp [results, Tryd.results132, go_sem]) rfl (CmpOut.is HG.out ?_)
    (repeat' first | exact Below.refl _ _ | apply bl_alloc | apply bl_drewN | apply bl_drew | refine bl_trans ?_ (by assumption) | refine bl_set ?_ (by first | omega | (simp <;> omega)) _)
  cases vb : vld b
  · have HG : Hid (fCmp a b = (0, false)) := fCmp_no2 (by cases h : realB b; rfl; rw [((ra b).1 h).1] at vb; cases vb)
    clear ra
    go_enter Tryd.func132, Tryd.ntmps132
    go_wp2_with (go_at_call 67; (first | (with_reducible refine (svalid_fb va _).mono ?_) | (with_reducible refine (svalid_fb vb _).mono ?_)); rintro e w1 ⟨rfl, hb⟩; have hb' := hb; obtain ⟨hc, hf, hz⟩ := bcellk (B := w.heap.size + 1 + 1) hb (by first | omega | (simp <;> omega)))
    refine bodyPost_ret (v := .tuple #[.int .i64 0, .bool false]) (by simp [results, Tryd.results132, go_sem]) rfl (CmpOut.is HG.out ?_)
    (repeat' first | exact Below.refl _ _ | apply bl_alloc | apply bl_drewN | apply bl_drew | refine bl_trans ?_ (by assumption) | refine bl_set ?_ (by first | omega | (simp <;> omega)) _)
  by_cases ia : a.im = 0
  case neg =>
    have HG : Hid (fCmp a b = (0, false)) := fCmp_no1 (by cases h : realB a; rfl; exact absurd ((ra a).1 h).2 ia)
    have z1 : (a.im != 0) = true := by simp [ia]
    clear ra
    go_enter Tryd.func132, Tryd.ntmps132
    go_wp2_with (go_at_call 67; (first | (with_reducible refine (svalid_fb va _).mono ?_) | (with_reducible refine (svalid_fb vb _).mono ?_)); rintro e w1 ⟨rfl, hb⟩; have hb' := hb; obtain ⟨hc, hf, hz⟩ := bcellk (B := w.heap.size + 1 + 1) hb (by first | omega | (simp <;> omega)))
    refine bodyPost_ret (v := .tuple #[.int .i64 0, .bool false]) (by simp [results, Tryd.results132, go_sem]) rfl (CmpOut.is HG.out ?_)
    (repeat' first | exact Below.refl _ _ | apply bl_alloc | apply bl_drewN | apply bl_drew | refine bl_trans ?_ (by assumption) | refine bl_set ?_ (by first | omega | (simp <;> omega)) _)
  by_cases ib : b.im = 0
  case neg =>
    have HG : Hid (fCmp a b = (0, false)) := fCmp_no2 (by cases h : realB b; rfl; exact absurd ((ra b).1 h).2 ib)
    have z1 : (a.im != 0) = false := by simp [ia]
    have z2 : (b.im != 0) = true := by simp [ib]
    clear ra ia
    go_enter Tryd.func132, Tryd.ntmps132
    go_wp2_with (go_at_call 67; (first | (with_reducible refine (svalid_fb va _).mono ?_) | (with_reducible refine (svalid_fb vb _).mono ?_)); rintro e w1 ⟨rfl, hb⟩; have hb' := hb; obtain ⟨hc, hf, hz⟩ := bcellk (B := w.heap.size + 1 + 1) hb (by first | omega | (simp <;> omega)))
    refine bodyPost_ret (v := .tuple #[.int .i64 0, .bool false]) (by simp [results, Tryd.results132, go_sem]) rfl (CmpOut.is HG.out ?_)
    (repeat' first | exact Below.refl _ _ | apply bl_alloc | apply bl_drewN | apply bl_drew | refine bl_trans ?_ (by assumption) | refine bl_set ?_ (by first | omega | (simp <;> omega)) _)
  have ha := (ra a).2 ⟨va, ia⟩
  have hb0 := (ra b).2 ⟨vb, ib⟩
  have HG : Hid (fCmp a b = (sgn (a.re * b.den - b.re * a.den), true)) := by show _ = _; unfold fCmp; rw [ha, hb0]; rfl
  have z1 : (a.im != 0) = false := by simp [ia]
  have z2 : (b.im != 0) = false := by simp [ib]
  obtain ⟨_, ⟨p1, p2⟩, p3, p4⟩ := realB_bd ha
  obtain ⟨_, ⟨r1, r2⟩, r3, r4⟩ := realB_bd hb0
  obtain ⟨m1, m2⟩ := mul_bd (a := a.re) (b := b.den) p1 p2 (by omega) r4
  obtain ⟨m3, m4⟩ := mul_bd (a := b.re) (b := a.den) r1 r2 (by omega) p4
  have m5 : -8000000000000000000 ≤ a.re * b.den - b.re * a.den := by omega
  have m6 : a.re * b.den - b.re * a.den ≤ 8000000000000000000 := by omega
  clear ra ia ib ha hb0 p1 p2 p3 p4 r1 r2 r3 r4
  go_enter Tryd.func132, Tryd.ntmps132
  go_wp2_with (first | (go_at_call 67; (first | (with_reducible refine (svalid_fb va _).mono ?_) | (with_reducible refine (svalid_fb vb _).mono ?_)); rintro e w1 ⟨rfl, hb⟩; have hb' := hb; obtain ⟨hc, hf, hz⟩ := bcellk (B := w.heap.size + 1 + 1) hb (by first | omega | (simp <;> omega))) | (go_at_call 142; (with_reducible refine (sgn_any _ _).mono ?_); rintro e w1 ⟨rfl, hb⟩; have hb' := hb; obtain ⟨hc, hf, hz⟩ := bcellk (B := w.heap.size + 1 + 1) hb (by first | omega | (simp <;> omega))))
  refine bodyPost_ret (v := .tuple #[.int .i64 (sgn (a.re * b.den - b.re * a.den)), .bool true]) (by simp [results, Tryd.results132, go_sem]) rfl (CmpOut.is HG.out ?_)
  (repeat' first | exact Below.refl _ _ | apply bl_alloc | apply bl_drewN | apply bl_drew | refine bl_trans ?_ (by assumption) | refine bl_set ?_ (by first | omega | (simp <;> omega)) _)
/-- The first number's square against the others. -/
def gRest (a : M4) : Int × Bool := if ((sSq a).2 && (fTimes a.a a.a).2) = true then fCmp (fTimes a.a a.a).1 (sSq a).1 else (0, false)
set_option maxRecDepth 100000 in
set_option maxHeartbeats 8000000 in
theorem iex_any (a : M4) (w : World) :
    Calls Tryd.prog 101 #[.agg #[.int .i64 a.a.re, .int .i64 a.a.im, .int .i64 a.a.den, .int .i64 a.b.re, .int .i64 a.b.im, .int .i64 a.b.den, .int .i64 a.c.re, .int .i64 a.c.im, .int .i64 a.c.den, .int .i64 a.d.re, .int .i64 a.d.im, .int .i64 a.d.den]] w (CmpOut (gRest a) w) := by
  cases h1 : (sSq a).2
  · have HG : Hid (gRest a = (0, false)) := by show _ = _; unfold gRest; simp [h1]
    go_enter Tryd.func101, Tryd.ntmps101
    go_wp2_with fail
    refine (isq_any a _).mono ?_
    rintro e w1 ho
    obtain ⟨rfl, hb⟩ := ho.fn
    have kc0 := fun o => hb.cell (p := ⟨w.heap.size, o, none⟩) (by show w.heap.size < _; first | omega | (simp <;> omega))
    have hz := hb.size
    (try simp at hz)
    have kl0 : w.heap.size < w1.heap.size := by omega
    have kn0 : ¬ w.heap.size = w1.heap.size := by omega
    have km0 : ¬ w1.heap.size = w.heap.size := by omega
    have HB := Lib.hid (show Below w.heap.size w w1 from by (repeat' first | exact Below.refl _ _ | apply bl_alloc | apply bl_drewN | apply bl_drew | refine bl_trans ?_ (by assumption) | refine bl_set ?_ (by first | omega | (simp <;> omega)) _))
    clear ho hb
    go_wp2_with fail
    refine (times_fr a.a a.a _).mono ?_
    rintro e w2 ho
    obtain ⟨rfl, hb⟩ := ho.fn
    have kc0 := fun o => hb.cell (p := ⟨w.heap.size, o, none⟩) (by show w.heap.size < _; first | omega | (simp <;> omega))
    have kc1 := fun o => hb.cell (p := ⟨w1.heap.size, o, none⟩) (by show w1.heap.size < _; first | omega | (simp <;> omega))
    have hz := hb.size
    (try simp at hz)
    have kl0 : w.heap.size < w2.heap.size := by omega
    have kn0 : ¬ w.heap.size = w2.heap.size := by omega
    have km0 : ¬ w2.heap.size = w.heap.size := by omega
    have kl1 : w1.heap.size < w2.heap.size := by omega
    have kn1 : ¬ w1.heap.size = w2.heap.size := by omega
    have km1 : ¬ w2.heap.size = w1.heap.size := by omega
    have HB := Lib.hid (show Below w.heap.size w w2 from by exact HB.out.trans ((show Below _ _ _ from ((Below.refl _ _).alloc (by omega) _)).trans (hb.mono (by first | omega | (simp <;> omega)))))
    clear ho hb
    go_wp2
    refine bodyPost_ret (v := .tuple #[.int .i64 0, .bool false]) (by simp [results, Tryd.results101, go_sem]) rfl (CmpOut.is HG.out ?_)
    (repeat' first | (with_reducible exact HB.out) | with_reducible refine setCells_below _ _ _ ?_ (by first | omega | (simp <;> omega)) | with_reducible refine Below.setCell ?_ (by show _ ≤ _; first | omega | (simp <;> omega) | simp) _ | with_reducible refine Below.alloc ?_ (by first | omega | (simp <;> omega)) _ | with_reducible apply Below.drew)
  cases h2 : (fTimes a.a a.a).2
  · have HG : Hid (gRest a = (0, false)) := by show _ = _; unfold gRest; simp [h1, h2]
    go_enter Tryd.func101, Tryd.ntmps101
    go_wp2_with fail
    refine (isq_any a _).mono ?_
    rintro e w1 ho
    obtain ⟨rfl, hb⟩ := ho.fn
    have kc0 := fun o => hb.cell (p := ⟨w.heap.size, o, none⟩) (by show w.heap.size < _; first | omega | (simp <;> omega))
    have hz := hb.size
    (try simp at hz)
    have kl0 : w.heap.size < w1.heap.size := by omega
    have kn0 : ¬ w.heap.size = w1.heap.size := by omega
    have km0 : ¬ w1.heap.size = w.heap.size := by omega
    have HB := Lib.hid (show Below w.heap.size w w1 from by (repeat' first | exact Below.refl _ _ | apply bl_alloc | apply bl_drewN | apply bl_drew | refine bl_trans ?_ (by assumption) | refine bl_set ?_ (by first | omega | (simp <;> omega)) _))
    clear ho hb
    go_wp2_with fail
    refine (times_fr a.a a.a _).mono ?_
    rintro e w2 ho
    obtain ⟨rfl, hb⟩ := ho.fn
    have kc0 := fun o => hb.cell (p := ⟨w.heap.size, o, none⟩) (by show w.heap.size < _; first | omega | (simp <;> omega))
    have kc1 := fun o => hb.cell (p := ⟨w1.heap.size, o, none⟩) (by show w1.heap.size < _; first | omega | (simp <;> omega))
    have hz := hb.size
    (try simp at hz)
    have kl0 : w.heap.size < w2.heap.size := by omega
    have kn0 : ¬ w.heap.size = w2.heap.size := by omega
    have km0 : ¬ w2.heap.size = w.heap.size := by omega
    have kl1 : w1.heap.size < w2.heap.size := by omega
    have kn1 : ¬ w1.heap.size = w2.heap.size := by omega
    have km1 : ¬ w2.heap.size = w1.heap.size := by omega
    have HB := Lib.hid (show Below w.heap.size w w2 from by exact HB.out.trans ((show Below _ _ _ from ((Below.refl _ _).alloc (by omega) _)).trans (hb.mono (by first | omega | (simp <;> omega)))))
    clear ho hb
    go_wp2
    refine bodyPost_ret (v := .tuple #[.int .i64 0, .bool false]) (by simp [results, Tryd.results101, go_sem]) rfl (CmpOut.is HG.out ?_)
    (repeat' first | (with_reducible exact HB.out) | with_reducible refine setCells_below _ _ _ ?_ (by first | omega | (simp <;> omega)) | with_reducible refine Below.setCell ?_ (by show _ ≤ _; first | omega | (simp <;> omega) | simp) _ | with_reducible refine Below.alloc ?_ (by first | omega | (simp <;> omega)) _ | with_reducible apply Below.drew)
  · have HG : Hid (gRest a = fCmp (fTimes a.a a.a).1 (sSq a).1) := by show _ = _; unfold gRest; simp [h1, h2]
    go_enter Tryd.func101, Tryd.ntmps101
    go_wp2_with fail
    refine (isq_any a _).mono ?_
    rintro e w1 ho
    obtain ⟨rfl, hb⟩ := ho.fn
    have kc0 := fun o => hb.cell (p := ⟨w.heap.size, o, none⟩) (by show w.heap.size < _; first | omega | (simp <;> omega))
    have hz := hb.size
    (try simp at hz)
    have kl0 : w.heap.size < w1.heap.size := by omega
    have kn0 : ¬ w.heap.size = w1.heap.size := by omega
    have km0 : ¬ w1.heap.size = w.heap.size := by omega
    have HB := Lib.hid (show Below w.heap.size w w1 from by (repeat' first | exact Below.refl _ _ | apply bl_alloc | apply bl_drewN | apply bl_drew | refine bl_trans ?_ (by assumption) | refine bl_set ?_ (by first | omega | (simp <;> omega)) _))
    clear ho hb
    go_wp2_with fail
    refine (times_fr a.a a.a _).mono ?_
    rintro e w2 ho
    obtain ⟨rfl, hb⟩ := ho.fn
    have kc0 := fun o => hb.cell (p := ⟨w.heap.size, o, none⟩) (by show w.heap.size < _; first | omega | (simp <;> omega))
    have kc1 := fun o => hb.cell (p := ⟨w1.heap.size, o, none⟩) (by show w1.heap.size < _; first | omega | (simp <;> omega))
    have hz := hb.size
    (try simp at hz)
    have kl0 : w.heap.size < w2.heap.size := by omega
    have kn0 : ¬ w.heap.size = w2.heap.size := by omega
    have km0 : ¬ w2.heap.size = w.heap.size := by omega
    have kl1 : w1.heap.size < w2.heap.size := by omega
    have kn1 : ¬ w1.heap.size = w2.heap.size := by omega
    have km1 : ¬ w2.heap.size = w1.heap.size := by omega
    have HB := Lib.hid (show Below w.heap.size w w2 from by exact HB.out.trans ((show Below _ _ _ from ((Below.refl _ _).alloc (by omega) _)).trans (hb.mono (by first | omega | (simp <;> omega)))))
    clear ho hb
    go_wp2_with fail
    refine (icmp_any _ _ _).mono ?_
    rintro e w3 ho
    rw [← HG.out] at ho
    obtain ⟨rfl, hb⟩ := ho.fn
    have hz := hb.size
    (try simp at hz)
    have HB := Lib.hid (show Below w.heap.size w w3 from by exact HB.out.trans ((show Below _ _ _ from ((Below.refl _ _).alloc (by omega) _)).trans (hb.mono (by first | omega | (simp <;> omega)))))
    clear ho hb
    go_wp2
    refine bodyPost_ret (v := .tuple #[.int .i64 (gRest a).1, .bool (gRest a).2]) (by simp [results, Tryd.results101, go_sem]) rfl (CmpOut.self ?_)
    (repeat' first | (with_reducible exact HB.out) | with_reducible refine setCells_below _ _ _ ?_ (by first | omega | (simp <;> omega)) | with_reducible refine Below.setCell ?_ (by show _ ≤ _; first | omega | (simp <;> omega) | simp) _ | with_reducible refine Below.alloc ?_ (by first | omega | (simp <;> omega)) _ | with_reducible apply Below.drew)
set_option maxRecDepth 100000 in
set_option maxHeartbeats 8000000 in
theorem sex_any (a : M4) (w : World) :
    Calls Tryd.prog 102 #[.agg #[.int .i64 a.a.re, .int .i64 a.a.im, .int .i64 a.a.den, .int .i64 a.b.re, .int .i64 a.b.im, .int .i64 a.b.den, .int .i64 a.c.re, .int .i64 a.c.im, .int .i64 a.c.den, .int .i64 a.d.re, .int .i64 a.d.im, .int .i64 a.d.den]] w (CmpOut (gRest a) w) := by
  cases h1 : (sSq a).2
  · have HG : Hid (gRest a = (0, false)) := by show _ = _; unfold gRest; simp [h1]
    go_enter Tryd.func102, Tryd.ntmps102
    go_wp2_with fail
    refine (ssq_any a _).mono ?_
    rintro e w1 ho
    obtain ⟨rfl, hb⟩ := ho.fn
    have kc0 := fun o => hb.cell (p := ⟨w.heap.size, o, none⟩) (by show w.heap.size < _; first | omega | (simp <;> omega))
    have hz := hb.size
    (try simp at hz)
    have kl0 : w.heap.size < w1.heap.size := by omega
    have kn0 : ¬ w.heap.size = w1.heap.size := by omega
    have km0 : ¬ w1.heap.size = w.heap.size := by omega
    have HB := Lib.hid (show Below w.heap.size w w1 from by (repeat' first | exact Below.refl _ _ | apply bl_alloc | apply bl_drewN | apply bl_drew | refine bl_trans ?_ (by assumption) | refine bl_set ?_ (by first | omega | (simp <;> omega)) _))
    clear ho hb
    go_wp2_with fail
    refine (sptimes_fr a.a a.a _).mono ?_
    rintro e w2 ho
    obtain ⟨rfl, hb⟩ := ho.fn
    have kc0 := fun o => hb.cell (p := ⟨w.heap.size, o, none⟩) (by show w.heap.size < _; first | omega | (simp <;> omega))
    have kc1 := fun o => hb.cell (p := ⟨w1.heap.size, o, none⟩) (by show w1.heap.size < _; first | omega | (simp <;> omega))
    have hz := hb.size
    (try simp at hz)
    have kl0 : w.heap.size < w2.heap.size := by omega
    have kn0 : ¬ w.heap.size = w2.heap.size := by omega
    have km0 : ¬ w2.heap.size = w.heap.size := by omega
    have kl1 : w1.heap.size < w2.heap.size := by omega
    have kn1 : ¬ w1.heap.size = w2.heap.size := by omega
    have km1 : ¬ w2.heap.size = w1.heap.size := by omega
    have HB := Lib.hid (show Below w.heap.size w w2 from by exact HB.out.trans ((show Below _ _ _ from ((Below.refl _ _).alloc (by omega) _)).trans (hb.mono (by first | omega | (simp <;> omega)))))
    clear ho hb
    go_wp2
    refine bodyPost_ret (v := .tuple #[.int .i64 0, .bool false]) (by simp [results, Tryd.results102, go_sem]) rfl (CmpOut.is HG.out ?_)
    (repeat' first | (with_reducible exact HB.out) | with_reducible refine setCells_below _ _ _ ?_ (by first | omega | (simp <;> omega)) | with_reducible refine Below.setCell ?_ (by show _ ≤ _; first | omega | (simp <;> omega) | simp) _ | with_reducible refine Below.alloc ?_ (by first | omega | (simp <;> omega)) _ | with_reducible apply Below.drew)
  cases h2 : (fTimes a.a a.a).2
  · have HG : Hid (gRest a = (0, false)) := by show _ = _; unfold gRest; simp [h1, h2]
    go_enter Tryd.func102, Tryd.ntmps102
    go_wp2_with fail
    refine (ssq_any a _).mono ?_
    rintro e w1 ho
    obtain ⟨rfl, hb⟩ := ho.fn
    have kc0 := fun o => hb.cell (p := ⟨w.heap.size, o, none⟩) (by show w.heap.size < _; first | omega | (simp <;> omega))
    have hz := hb.size
    (try simp at hz)
    have kl0 : w.heap.size < w1.heap.size := by omega
    have kn0 : ¬ w.heap.size = w1.heap.size := by omega
    have km0 : ¬ w1.heap.size = w.heap.size := by omega
    have HB := Lib.hid (show Below w.heap.size w w1 from by (repeat' first | exact Below.refl _ _ | apply bl_alloc | apply bl_drewN | apply bl_drew | refine bl_trans ?_ (by assumption) | refine bl_set ?_ (by first | omega | (simp <;> omega)) _))
    clear ho hb
    go_wp2_with fail
    refine (sptimes_fr a.a a.a _).mono ?_
    rintro e w2 ho
    obtain ⟨rfl, hb⟩ := ho.fn
    have kc0 := fun o => hb.cell (p := ⟨w.heap.size, o, none⟩) (by show w.heap.size < _; first | omega | (simp <;> omega))
    have kc1 := fun o => hb.cell (p := ⟨w1.heap.size, o, none⟩) (by show w1.heap.size < _; first | omega | (simp <;> omega))
    have hz := hb.size
    (try simp at hz)
    have kl0 : w.heap.size < w2.heap.size := by omega
    have kn0 : ¬ w.heap.size = w2.heap.size := by omega
    have km0 : ¬ w2.heap.size = w.heap.size := by omega
    have kl1 : w1.heap.size < w2.heap.size := by omega
    have kn1 : ¬ w1.heap.size = w2.heap.size := by omega
    have km1 : ¬ w2.heap.size = w1.heap.size := by omega
    have HB := Lib.hid (show Below w.heap.size w w2 from by exact HB.out.trans ((show Below _ _ _ from ((Below.refl _ _).alloc (by omega) _)).trans (hb.mono (by first | omega | (simp <;> omega)))))
    clear ho hb
    go_wp2
    refine bodyPost_ret (v := .tuple #[.int .i64 0, .bool false]) (by simp [results, Tryd.results102, go_sem]) rfl (CmpOut.is HG.out ?_)
    (repeat' first | (with_reducible exact HB.out) | with_reducible refine setCells_below _ _ _ ?_ (by first | omega | (simp <;> omega)) | with_reducible refine Below.setCell ?_ (by show _ ≤ _; first | omega | (simp <;> omega) | simp) _ | with_reducible refine Below.alloc ?_ (by first | omega | (simp <;> omega)) _ | with_reducible apply Below.drew)
  · have HG : Hid (gRest a = fCmp (fTimes a.a a.a).1 (sSq a).1) := by show _ = _; unfold gRest; simp [h1, h2]
    go_enter Tryd.func102, Tryd.ntmps102
    go_wp2_with fail
    refine (ssq_any a _).mono ?_
    rintro e w1 ho
    obtain ⟨rfl, hb⟩ := ho.fn
    have kc0 := fun o => hb.cell (p := ⟨w.heap.size, o, none⟩) (by show w.heap.size < _; first | omega | (simp <;> omega))
    have hz := hb.size
    (try simp at hz)
    have kl0 : w.heap.size < w1.heap.size := by omega
    have kn0 : ¬ w.heap.size = w1.heap.size := by omega
    have km0 : ¬ w1.heap.size = w.heap.size := by omega
    have HB := Lib.hid (show Below w.heap.size w w1 from by (repeat' first | exact Below.refl _ _ | apply bl_alloc | apply bl_drewN | apply bl_drew | refine bl_trans ?_ (by assumption) | refine bl_set ?_ (by first | omega | (simp <;> omega)) _))
    clear ho hb
    go_wp2_with fail
    refine (sptimes_fr a.a a.a _).mono ?_
    rintro e w2 ho
    obtain ⟨rfl, hb⟩ := ho.fn
    have kc0 := fun o => hb.cell (p := ⟨w.heap.size, o, none⟩) (by show w.heap.size < _; first | omega | (simp <;> omega))
    have kc1 := fun o => hb.cell (p := ⟨w1.heap.size, o, none⟩) (by show w1.heap.size < _; first | omega | (simp <;> omega))
    have hz := hb.size
    (try simp at hz)
    have kl0 : w.heap.size < w2.heap.size := by omega
    have kn0 : ¬ w.heap.size = w2.heap.size := by omega
    have km0 : ¬ w2.heap.size = w.heap.size := by omega
    have kl1 : w1.heap.size < w2.heap.size := by omega
    have kn1 : ¬ w1.heap.size = w2.heap.size := by omega
    have km1 : ¬ w2.heap.size = w1.heap.size := by omega
    have HB := Lib.hid (show Below w.heap.size w w2 from by exact HB.out.trans ((show Below _ _ _ from ((Below.refl _ _).alloc (by omega) _)).trans (hb.mono (by first | omega | (simp <;> omega)))))
    clear ho hb
    go_wp2_with fail
    refine (scmp_any _ _ _).mono ?_
    rintro e w3 ho
    rw [← HG.out] at ho
    obtain ⟨rfl, hb⟩ := ho.fn
    have hz := hb.size
    (try simp at hz)
    have HB := Lib.hid (show Below w.heap.size w w3 from by exact HB.out.trans ((show Below _ _ _ from ((Below.refl _ _).alloc (by omega) _)).trans (hb.mono (by first | omega | (simp <;> omega)))))
    clear ho hb
    go_wp2
    refine bodyPost_ret (v := .tuple #[.int .i64 (gRest a).1, .bool (gRest a).2]) (by simp [results, Tryd.results102, go_sem]) rfl (CmpOut.self ?_)
    (repeat' first | (with_reducible exact HB.out) | with_reducible refine setCells_below _ _ _ ?_ (by first | omega | (simp <;> omega)) | with_reducible refine Below.setCell ?_ (by show _ ≤ _; first | omega | (simp <;> omega) | simp) _ | with_reducible refine Below.alloc ?_ (by first | omega | (simp <;> omega)) _ | with_reducible apply Below.drew)
def gLight (a : M4) : Bool := (gRest a).2 && decide (0 ≤ (gRest a).1) && decide (0 ≤ a.a.re)
set_option maxRecDepth 100000 in
set_option maxHeartbeats 8000000 in
theorem ilight_any (a : M4) (w : World) :
    Calls Tryd.prog 44 #[.agg #[.int .i64 a.a.re, .int .i64 a.a.im, .int .i64 a.a.den, .int .i64 a.b.re, .int .i64 a.b.im, .int .i64 a.b.den, .int .i64 a.c.re, .int .i64 a.c.im, .int .i64 a.c.den, .int .i64 a.d.re, .int .i64 a.d.im, .int .i64 a.d.den]] w fun e w' => e = .returned (.bool (gLight a)) ∧ Below w.heap.size w w' := by
  cases h1 : (gRest a).2 <;> by_cases h2 : 0 ≤ (gRest a).1 <;> by_cases h3 : 0 ≤ a.a.re
  all_goals
    have HG : Hid (gLight a = (decide ((gRest a).2 = true) && decide (0 ≤ (gRest a).1) && decide (0 ≤ a.a.re))) := by show _ = _; unfold gLight; simp
    go_enter Tryd.func44, Tryd.ntmps44
    go_wp2_with fail
    refine (iex_any a _).mono ?_
    rintro e w1 ho
    obtain ⟨rfl, hb⟩ := ho.fn
    have kc0 := fun o => hb.cell (p := ⟨w.heap.size, o, none⟩) (by show w.heap.size < _; first | omega | (simp <;> omega))
    have hz := hb.size
    (try simp at hz)
    have kl0 : w.heap.size < w1.heap.size := by omega
    have kn0 : ¬ w.heap.size = w1.heap.size := by omega
    have km0 : ¬ w1.heap.size = w.heap.size := by omega
    have HB := Lib.hid (show Below w.heap.size w w1 from by (repeat' first | exact Below.refl _ _ | apply bl_alloc | apply bl_drewN | apply bl_drew | refine bl_trans ?_ (by assumption) | refine bl_set ?_ (by first | omega | (simp <;> omega)) _))
    clear ho hb
    go_wp2
    go_ret
    exact ⟨ret_bool (by rw [HG.out]; simp [h1, h2, h3]), HB.out⟩
def gPure (a : M4) : Bool := (gRest a).2 && decide ((gRest a).1 = 0) && decide (0 ≤ a.a.re)
set_option maxRecDepth 100000 in
set_option maxHeartbeats 8000000 in
theorem ipure_any (a : M4) (w : World) :
    Calls Tryd.prog 41 #[.agg #[.int .i64 a.a.re, .int .i64 a.a.im, .int .i64 a.a.den, .int .i64 a.b.re, .int .i64 a.b.im, .int .i64 a.b.den, .int .i64 a.c.re, .int .i64 a.c.im, .int .i64 a.c.den, .int .i64 a.d.re, .int .i64 a.d.im, .int .i64 a.d.den]] w fun e w' => e = .returned (.bool (gPure a)) ∧ Below w.heap.size w w' := by
  cases h1 : (gRest a).2 <;> by_cases h2 : (gRest a).1 = 0 <;> by_cases h3 : 0 ≤ a.a.re
  all_goals
    have HG : Hid (gPure a = (decide ((gRest a).2 = true) && decide ((gRest a).1 = 0) && decide (0 ≤ a.a.re))) := by show _ = _; unfold gPure; simp
    go_enter Tryd.func41, Tryd.ntmps41
    go_wp2_with fail
    refine (iex_any a _).mono ?_
    rintro e w1 ho
    obtain ⟨rfl, hb⟩ := ho.fn
    have kc0 := fun o => hb.cell (p := ⟨w.heap.size, o, none⟩) (by show w.heap.size < _; first | omega | (simp <;> omega))
    have hz := hb.size
    (try simp at hz)
    have kl0 : w.heap.size < w1.heap.size := by omega
    have kn0 : ¬ w.heap.size = w1.heap.size := by omega
    have km0 : ¬ w1.heap.size = w.heap.size := by omega
    have HB := Lib.hid (show Below w.heap.size w w1 from by (repeat' first | exact Below.refl _ _ | apply bl_alloc | apply bl_drewN | apply bl_drew | refine bl_trans ?_ (by assumption) | refine bl_set ?_ (by first | omega | (simp <;> omega)) _))
    clear ho hb
    go_wp2
    go_ret
    exact ⟨ret_bool (by rw [HG.out]; simp [h1, h2, h3]), HB.out⟩
set_option maxRecDepth 100000 in
set_option maxHeartbeats 8000000 in
theorem spure_any (a : M4) (w : World) :
    Calls Tryd.prog 43 #[.agg #[.int .i64 a.a.re, .int .i64 a.a.im, .int .i64 a.a.den, .int .i64 a.b.re, .int .i64 a.b.im, .int .i64 a.b.den, .int .i64 a.c.re, .int .i64 a.c.im, .int .i64 a.c.den, .int .i64 a.d.re, .int .i64 a.d.im, .int .i64 a.d.den]] w fun e w' => e = .returned (.bool (gPure a)) ∧ Below w.heap.size w w' := by
  cases h1 : (gRest a).2 <;> by_cases h2 : (gRest a).1 = 0 <;> by_cases h3 : 0 ≤ a.a.re
  all_goals
    have HG : Hid (gPure a = (decide ((gRest a).2 = true) && decide ((gRest a).1 = 0) && decide (0 ≤ a.a.re))) := by show _ = _; unfold gPure; simp
    go_enter Tryd.func43, Tryd.ntmps43
    go_wp2_with fail
    refine (sex_any a _).mono ?_
    rintro e w1 ho
    obtain ⟨rfl, hb⟩ := ho.fn
    have kc0 := fun o => hb.cell (p := ⟨w.heap.size, o, none⟩) (by show w.heap.size < _; first | omega | (simp <;> omega))
    have hz := hb.size
    (try simp at hz)
    have kl0 : w.heap.size < w1.heap.size := by omega
    have kn0 : ¬ w.heap.size = w1.heap.size := by omega
    have km0 : ¬ w1.heap.size = w.heap.size := by omega
    have HB := Lib.hid (show Below w.heap.size w w1 from by (repeat' first | exact Below.refl _ _ | apply bl_alloc | apply bl_drewN | apply bl_drew | refine bl_trans ?_ (by assumption) | refine bl_set ?_ (by first | omega | (simp <;> omega)) _))
    clear ho hb
    go_wp2
    go_ret
    exact ⟨ret_bool (by rw [HG.out]; simp [h1, h2, h3]), HB.out⟩
end Go.Proofs.YtmcokdiopcpifaaDoor
