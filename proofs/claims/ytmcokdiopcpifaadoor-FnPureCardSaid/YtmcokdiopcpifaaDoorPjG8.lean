/- Plain facts on vectors and matrices of fractions. No program is in sight. -/
import Derived.Test.YtmcokdiopcpifaaDoorPjPlain
import Derived.Test.YtmcokdiopcpifaaDoorPjE
import Derived.Test.YtmcokdiopcpifaaDoorPjI
import Derived.Test.YtmcokdiopcpifaaDoorPjL
import Derived.Test.YtmcokdiopcpifaaDoorPjH
set_option maxRecDepth 100000
namespace Pol
def m4z : M4 := ⟨fz, fz, fz, fz⟩
def j2z : J2 := ⟨fz, fz⟩
end Pol
namespace Pol
/-- A value, or its zero where something on the way is none. -/
def gt {α : Type} (z : α) (e : Bool) (x : α) : α × Bool := if e = true then (z, false) else (x, true)
theorem gt_no {α : Type} {z : α} {e : Bool} {x : α} (h : (gt z e x).2 = false) : gt z e x = (z, false) := by unfold gt at h ⊢; cases e <;> simp_all
theorem gt_end {α : Type} (z : α) (e : Bool) (x : α) : e = !(gt z e x).2 ∧ ((gt z e x).2 = true → x = (gt z e x).1) := by unfold gt; cases e <;> simp
theorem pair_t {α : Type} {g : α × Bool} (h : g.2 = true) : g = (g.1, true) := by cases g; simp_all
/-- The power, the reference's way. -/
def fPow2 (a : Fr) : Fr × Bool := if (fMirror a).2 = true then fTimes a (fMirror a).1 else (fz, false)
theorem fPow2_eq (a : Fr) : fPow2 a = fPower a := fPower_spec a
def jv (a : J2) : Bool := vld a.x && vld a.y
theorem jv_iff {a : J2} : jv a = true ↔ vld a.x = true ∧ vld a.y = true := by unfold jv; simp
def jPow (a : J2) : Fr × Bool := if ((fPower a.x).2 && (fPower a.y).2) = true then fAdd (fPower a.x).1 (fPower a.y).1 else (fz, false)
def jPowI (a : J2) : Fr × Bool := gt fz ((((false || !jv a) || !(fPower a.x).2) || !(fPower a.y).2) || !(fAdd (fPower a.x).1 (fPower a.y).1).2) (fAdd (fPower a.x).1 (fPower a.y).1).1
theorem jPowI_eq (a : J2) : jPowI a = jPow a := by
  unfold jPowI jPow gt
  cases h1 : (fPower a.x).2
  · simp
  cases h2 : (fPower a.y).2
  · simp
  have hv : jv a = true := jv_iff.2 ⟨(fPower_vld h1).1, (fPower_vld h2).1⟩
  cases h3 : (fAdd (fPower a.x).1 (fPower a.y).1).2
  · simp [hv, fAdd_no _ _ h3]
  · simp [hv, (pair_t h3).symm]
def eJin (a b : J2) : Bool := ((((((false || !(jv a && jv b)) || !(fMirror b.x).2) || !(fTimes a.x (fMirror b.x).1).2) || !(fMirror b.y).2) || !(fTimes a.y (fMirror b.y).1).2) || !(fAdd (fTimes a.x (fMirror b.x).1).1 (fTimes a.y (fMirror b.y).1).1).2)
def j2of (p q : Fr × Bool) : J2 × Bool := if (p.2 && q.2) = true then (⟨p.1, q.1⟩, true) else (j2z, false)
theorem j2of_eq (p q : Fr × Bool) : gt j2z ((false || !p.2) || !q.2) ⟨p.1, q.1⟩ = j2of p q := by
  unfold gt j2of; cases p.2 <;> cases q.2 <;> simp
def jTim (a : J2) (c : Fr) : J2 × Bool := j2of (fTimes a.x c) (fTimes a.y c)
def jTimI (a : J2) (c : Fr) : J2 × Bool := gt j2z (((false || !(jv a && vld c)) || !(fTimes a.x c).2) || !(fTimes a.y c).2) ⟨(fTimes a.x c).1, (fTimes a.y c).1⟩
theorem jTimI_eq (a : J2) (c : Fr) : jTimI a c = jTim a c := by
  unfold jTimI jTim
  rw [← j2of_eq]
  cases h1 : (fTimes a.x c).2
  · simp
  cases h2 : (fTimes a.y c).2
  · simp
  have hv : (jv a && vld c) = true := by simp [jv, (fTimes_vld h1).1, (fTimes_vld h2).1, (fTimes_vld h1).2.1]
  rw [hv]; rfl
end Pol
namespace Pol
def f2 : Fr := ⟨2, 0, 1⟩
def fReal (a : Fr) : Fr × Bool := if vld a = true then low a.re 0 a.den else (fz, false)
def fImag (a : Fr) : Fr × Bool := if vld a = true then low a.im 0 a.den else (fz, false)
theorem pair_eq {p q : Fr × Bool} (hp : p.2 = false → p = (fz, false)) (hq : q.2 = false → q = (fz, false)) (h : ∀ f, p = (f, true) ↔ q = (f, true)) : p = q := by
  cases h1 : p.2
  · cases h2 : q.2
    · rw [hp h1, hq h2]
    · have := (h q.1).2 (pair_t h2)
      rw [this] at h1; cases h1
  · exact ((h p.1).1 (pair_t h1) ▸ pair_t h1)
theorem low_small {n den : Int} (h0 : -2000000000 ≤ n) (h1 : n ≤ 2000000000) (d0 : 1 ≤ den) (d1 : den ≤ 2000000000) : (low n 0 den).2 = true := by
  unfold low
  have hb : lowB n 0 den = true := by
    rw [lowB_vld _ _ _ d0, vld_iff]
    obtain ⟨e1, e2, e3⟩ := cut_mul n 0 den
    have hg := g3_pos n 0 den d0
    have hc := cut_den_pos n 0 den d0
    have hx := cut_g3 n 0 den d0
    refine ⟨?_, ?_, ⟨hc, ?_⟩, hx⟩
    · have : (cut n 0 den).re.natAbs ≤ n.natAbs := by
        have := congrArg Int.natAbs e1
        rw [Int.natAbs_mul] at this
        have h3 : 1 ≤ (g3 n 0 den).natAbs := by omega
        calc (cut n 0 den).re.natAbs = (cut n 0 den).re.natAbs * 1 := by omega
          _ ≤ (cut n 0 den).re.natAbs * (g3 n 0 den).natAbs := Nat.mul_le_mul (Nat.le_refl _) h3
          _ = n.natAbs := this
      omega
    · have : (cut n 0 den).im = 0 := by
        rcases Int.mul_eq_zero.1 e2 with h | h
        · exact h
        · omega
      omega
    · have : (cut n 0 den).den.natAbs ≤ den.natAbs := by
        have := congrArg Int.natAbs e3
        rw [Int.natAbs_mul] at this
        have h3 : 1 ≤ (g3 n 0 den).natAbs := by omega
        calc (cut n 0 den).den.natAbs = (cut n 0 den).den.natAbs * 1 := by omega
          _ ≤ (cut n 0 den).den.natAbs * (g3 n 0 den).natAbs := Nat.mul_le_mul (Nat.le_refl _) h3
          _ = den.natAbs := this
      omega
  rw [if_pos hb]
theorem vld_f2 : vld f2 = true := by decide
theorem twice_low {n den : Int} (h0 : -2000000000 ≤ n) (h1 : n ≤ 2000000000) (d0 : 1 ≤ den) (d1 : den ≤ 2000000000) : fTimes f2 (low n 0 den).1 = low (2 * n) 0 den := by
  have hl := low_small h0 h1 d0 d1
  obtain ⟨hv, hr, hi⟩ := (low_ok d0).1 (pair_t hl)
  refine pair_eq (fTimes_no _ _) (low_no _ _ _) (fun f => ?_)
  rw [fTimes_ok, low_ok d0, hr, hi]
  have a1 : rv f2 = 2 := by show ((2 : Int) : Rat) / ((1 : Int) : Rat) = 2; grind
  have a2 : iv f2 = 0 := by show ((0 : Int) : Rat) / ((1 : Int) : Rat) = 0; grind
  rw [a1, a2]
  have e1 : (2 : Rat) * ((n : Rat) / (den : Rat)) - 0 * (((0 : Int) : Rat) / (den : Rat)) = ((2 * n : Int) : Rat) / (den : Rat) := by
    rw [Rat.zero_mul, Rat.sub_eq_add_neg, Rat.neg_zero, Rat.add_zero, Rat.intCast_mul, Rat.div_def, Rat.div_def, Rat.mul_assoc]; rfl
  have e2 : (2 : Rat) * (((0 : Int) : Rat) / (den : Rat)) + 0 * ((n : Rat) / (den : Rat)) = ((0 : Int) : Rat) / (den : Rat) := by
    have z : ((0 : Int) : Rat) / (den : Rat) = 0 := by rw [Rat.div_def]; exact Rat.zero_mul _
    rw [z, Rat.zero_mul, Rat.mul_zero, Rat.add_zero]
  rw [e1, e2]
  exact ⟨fun h => ⟨h.2.2.1, h.2.2.2.1, h.2.2.2.2⟩, fun h => ⟨vld_f2, hv, h⟩⟩
theorem fReal_y {a : Fr} (h : vld a = true) : (fReal a).2 = true ∧ fTimes f2 (fReal a).1 = low (2 * a.re) 0 a.den := by
  obtain ⟨h1, h2, h3, -⟩ := (vld_iff a).1 h
  unfold fReal
  rw [if_pos h]
  exact ⟨low_small h1.1 h1.2 h3.1 h3.2, twice_low h1.1 h1.2 h3.1 h3.2⟩
theorem fImag_y {a : Fr} (h : vld a = true) : (fImag a).2 = true ∧ fTimes f2 (fImag a).1 = low (2 * a.im) 0 a.den := by
  obtain ⟨h1, h2, h3, -⟩ := (vld_iff a).1 h
  unfold fImag
  rw [if_pos h]
  exact ⟨low_small h2.1 h2.2 h3.1 h3.2, twice_low h2.1 h2.2 h3.1 h3.2⟩
/-- The four numbers, the reference's way. -/
def sOf (a : J2) : M4 × Bool :=
  if ((fPower a.x).2 && (fPower a.y).2 && (fMirror a.y).2) = true then
    if ((fTimes a.x (fMirror a.y).1).2 && (fAdd (fPower a.x).1 (fPower a.y).1).2 && (fLess (fPower a.x).1 (fPower a.y).1).2) = true then
      if ((low (2 * (fTimes a.x (fMirror a.y).1).1.re) 0 (fTimes a.x (fMirror a.y).1).1.den).2 && (low (2 * (fTimes a.x (fMirror a.y).1).1.im) 0 (fTimes a.x (fMirror a.y).1).1.den).2) = true then
        (⟨(fAdd (fPower a.x).1 (fPower a.y).1).1, (fLess (fPower a.x).1 (fPower a.y).1).1, (low (2 * (fTimes a.x (fMirror a.y).1).1.re) 0 (fTimes a.x (fMirror a.y).1).1.den).1, (low (2 * (fTimes a.x (fMirror a.y).1).1.im) 0 (fTimes a.x (fMirror a.y).1).1.den).1⟩, true)
      else (m4z, false)
    else (m4z, false)
  else (m4z, false)
def sOfC (a : J2) : Fr := (fTimes a.x (fMirror a.y).1).1
def sOfE4 (a : J2) : Bool := (((((false || !jv a) || !(fPower a.x).2) || !(fPower a.y).2) || !(fMirror a.y).2) || !(fTimes a.x (fMirror a.y).1).2)
/-- The same, the program's way. -/
def sOfI (a : J2) : M4 × Bool :=
  gt m4z ((((((sOfE4 a || !(fAdd (fPower a.x).1 (fPower a.y).1).2) || !(fLess (fPower a.x).1 (fPower a.y).1).2) || !(fReal (sOfC a)).2) || !(fTimes f2 (fReal (sOfC a)).1).2) || !(fImag (sOfC a)).2) || !(fTimes f2 (fImag (sOfC a)).1).2)
    ⟨(fAdd (fPower a.x).1 (fPower a.y).1).1, (fLess (fPower a.x).1 (fPower a.y).1).1, (fTimes f2 (fReal (sOfC a)).1).1, (fTimes f2 (fImag (sOfC a)).1).1⟩
theorem sOfI_eq (a : J2) : sOfI a = sOf a := by
  unfold sOfI sOf gt sOfE4
  cases h1 : (fPower a.x).2
  · simp
  cases h2 : (fPower a.y).2
  · simp
  cases h3 : (fMirror a.y).2
  · simp
  have hv : jv a = true := jv_iff.2 ⟨(fPower_vld h1).1, (fPower_vld h2).1⟩
  cases h4 : (fTimes a.x (fMirror a.y).1).2
  · simp
  have hc := (fTimes_vld h4).2.2
  have hr := fReal_y (a := sOfC a) hc
  have hi := fImag_y (a := sOfC a) hc
  rw [hr.1, hi.1, hr.2, hi.2, hv]
  show _ = _
  cases h5 : (fAdd (fPower a.x).1 (fPower a.y).1).2
  · simp
  cases h6 : (fLess (fPower a.x).1 (fPower a.y).1).2
  · simp
  unfold sOfC
  cases h7 : (low (2 * (fTimes a.x (fMirror a.y).1).1.re) 0 (fTimes a.x (fMirror a.y).1).1.den).2
  · simp
  cases h8 : (low (2 * (fTimes a.x (fMirror a.y).1).1.im) 0 (fTimes a.x (fMirror a.y).1).1.den).2
  · simp
  simp
theorem fTimes_rng {c : Fr} (h : vld c = true) : (-1000000000000000000 ≤ 2 * c.re ∧ 2 * c.re ≤ 1000000000000000000) ∧ (-1000000000000000000 ≤ 2 * c.im ∧ 2 * c.im ≤ 1000000000000000000) ∧ 1 ≤ c.den ∧ c.den ≤ 1000000000000000000 := by
  obtain ⟨h1, h2, h3, -⟩ := (vld_iff c).1 h
  omega
end Pol
namespace Go.Proofs.YtmcokdiopcpifaaDoor
open Go.RowKit Pol
/-- The first k pass; nothing that was there has turned. -/
def VRel (p : Fr → Bool) (g : Nat → Fr) (n : Nat) (W : World) (i : Value) (wr : World) : Prop := ∃ k : Nat, k ≤ n ∧ i = .int .i64 k ∧ Hid (apre p g k = true) ∧ Below W.heap.size W wr
theorem VRel.mk {p : Fr → Bool} {g : Nat → Fr} {n : Nat} {W wr : World} {i : Value} (k : Nat) (h : k ≤ n) (hi : i = .int .i64 k) (hp : apre p g k = true) (hb : Below W.heap.size W wr) : VRel p g n W i wr := ⟨k, h, hi, hp, hb⟩
theorem idx4_0 (m : M4) (w : World) : (Instr.index 39 (.agg #[.int .i64 m.a.re, .int .i64 m.a.im, .int .i64 m.a.den, .int .i64 m.b.re, .int .i64 m.b.im, .int .i64 m.b.den, .int .i64 m.c.re, .int .i64 m.c.im, .int .i64 m.c.den, .int .i64 m.d.re, .int .i64 m.d.im, .int .i64 m.d.den]) (.int .i64 0)).run Tryd.prog w = .ok (.agg #[.int .i64 m.a.re, .int .i64 m.a.im, .int .i64 m.a.den]) w := by kernel_rfl
theorem idx4_1 (m : M4) (w : World) : (Instr.index 39 (.agg #[.int .i64 m.a.re, .int .i64 m.a.im, .int .i64 m.a.den, .int .i64 m.b.re, .int .i64 m.b.im, .int .i64 m.b.den, .int .i64 m.c.re, .int .i64 m.c.im, .int .i64 m.c.den, .int .i64 m.d.re, .int .i64 m.d.im, .int .i64 m.d.den]) (.int .i64 1)).run Tryd.prog w = .ok (.agg #[.int .i64 m.b.re, .int .i64 m.b.im, .int .i64 m.b.den]) w := by kernel_rfl
theorem idx4_2 (m : M4) (w : World) : (Instr.index 39 (.agg #[.int .i64 m.a.re, .int .i64 m.a.im, .int .i64 m.a.den, .int .i64 m.b.re, .int .i64 m.b.im, .int .i64 m.b.den, .int .i64 m.c.re, .int .i64 m.c.im, .int .i64 m.c.den, .int .i64 m.d.re, .int .i64 m.d.im, .int .i64 m.d.den]) (.int .i64 2)).run Tryd.prog w = .ok (.agg #[.int .i64 m.c.re, .int .i64 m.c.im, .int .i64 m.c.den]) w := by kernel_rfl
theorem idx4_3 (m : M4) (w : World) : (Instr.index 39 (.agg #[.int .i64 m.a.re, .int .i64 m.a.im, .int .i64 m.a.den, .int .i64 m.b.re, .int .i64 m.b.im, .int .i64 m.b.den, .int .i64 m.c.re, .int .i64 m.c.im, .int .i64 m.c.den, .int .i64 m.d.re, .int .i64 m.d.im, .int .i64 m.d.den]) (.int .i64 3)).run Tryd.prog w = .ok (.agg #[.int .i64 m.d.re, .int .i64 m.d.im, .int .i64 m.d.den]) w := by kernel_rfl
set_option maxHeartbeats 1000000 in
theorem realOk_any (a : Fr) (w : World) :
    Calls Tryd.prog 68 #[.agg #[.int .i64 a.re, .int .i64 a.im, .int .i64 a.den]] w fun e w' => e = .returned (.bool (realB a)) ∧ Below w.heap.size w w' := by
  cases h : vld a
  · have hr : realB a = false := by unfold realB; rw [h]; rfl
    rw [hr]
    go_enter Tryd.func68, Tryd.ntmps68
    go_wp2_with (go_at_call 86; (with_reducible refine (valid_fb h _).mono ?_); rintro e w' ⟨rfl, hb⟩; obtain ⟨hc, hf, hz⟩ := bcellk (B := w.heap.size + 1) hb (by first | omega | (simp <;> omega)))
    go_ret
    exact ⟨rfl, by (repeat' first | exact Below.refl _ _ | apply bl_alloc | apply bl_drewN | apply bl_drew | refine bl_trans ?_ (by assumption) | refine bl_set ?_ (by first | omega | (simp <;> omega)) _)⟩
  · have hr : realB a = decide (a.im = 0) := by unfold realB; rw [h]; rfl
    rw [hr]
    by_cases h0 : a.im = 0
    · have h0' : (a.im == 0) = true := by simp [h0]
      have H0 := Lib.hid h0; clear h0
      go_enter Tryd.func68, Tryd.ntmps68
      go_wp2_with (go_at_call 86; (with_reducible refine (valid_fb h _).mono ?_); rintro e w' ⟨rfl, hb⟩; obtain ⟨hc, hf, hz⟩ := bcellk (B := w.heap.size + 1) hb (by first | omega | (simp <;> omega)))
      go_ret
      exact ⟨ret_bool (by rw [H0.out]; rfl), by (repeat' first | exact Below.refl _ _ | apply bl_alloc | apply bl_drewN | apply bl_drew | refine bl_trans ?_ (by assumption) | refine bl_set ?_ (by first | omega | (simp <;> omega)) _)⟩
    · have h0' : (a.im == 0) = false := by simp [h0]
      go_enter Tryd.func68, Tryd.ntmps68
      go_wp2_with (go_at_call 86; (with_reducible refine (valid_fb h _).mono ?_); rintro e w' ⟨rfl, hb⟩; obtain ⟨hc, hf, hz⟩ := bcellk (B := w.heap.size + 1) hb (by first | omega | (simp <;> omega)))
      go_ret
      exact ⟨ret_bool (by simp [h0]), by (repeat' first | exact Below.refl _ _ | apply bl_alloc | apply bl_drewN | apply bl_drew | refine bl_trans ?_ (by assumption) | refine bl_set ?_ (by first | omega | (simp <;> omega)) _)⟩
theorem realOk_b {a : Fr} {b : Bool} (h : realB a = b) (w : World) :
    Calls Tryd.prog 68 #[.agg #[.int .i64 a.re, .int .i64 a.im, .int .i64 a.den]] w fun e w' => e = .returned (.bool b) ∧ Below w.heap.size w w' := h ▸ realOk_any a w
set_option maxHeartbeats 4000000 in
theorem istokesvalid_any (m : M4) (w : World) :
    Calls Tryd.prog 98 #[.agg #[.int .i64 m.a.re, .int .i64 m.a.im, .int .i64 m.a.den, .int .i64 m.b.re, .int .i64 m.b.im, .int .i64 m.b.den, .int .i64 m.c.re, .int .i64 m.c.im, .int .i64 m.c.den, .int .i64 m.d.re, .int .i64 m.d.im, .int .i64 m.d.den]] w fun e w' => e = .returned (.bool (all4 realB m)) ∧ Below w.heap.size w w' := by
  have i0 := idx4_0 m
  have i1 := idx4_1 m
  have i2 := idx4_2 m
  have i3 := idx4_3 m
  go_enter Tryd.func98, Tryd.ntmps98
  go_wp2
  go_loopw [7] (fun i wr => VRel realB m.get 4 w i wr) (fun i _ => (4 - intOf i).toNat)
  case atStart => exact VRel.mk 0 (by omega) rfl rfl (by (repeat' first | exact Below.refl _ _ | apply bl_alloc | apply bl_drewN | apply bl_drew | refine bl_trans ?_ (by assumption) | refine bl_set ?_ (by first | omega | (simp <;> omega)) _))
  case round =>
    obtain ⟨k, hk, rfl, HP, hb⟩ := hrel
    have h5 : k = 0 ∨ k = 1 ∨ k = 2 ∨ k = 3 ∨ k = 4 := by omega
    rcases h5 with rfl | rfl | rfl | rfl | rfl
    · cases h : realB m.a
      · go_wp2_with (go_at_call 68; (with_reducible refine (realOk_b h _).mono ?_); rintro e w1 ⟨rfl, hb1⟩)
        go_ret
        exact ⟨ret_bool (apre_no (k := 0) h 4 (by omega)).symm, by (repeat' first | exact Below.refl _ _ | apply bl_alloc | apply bl_drewN | apply bl_drew | refine bl_trans ?_ (by assumption) | refine bl_set ?_ (by first | omega | (simp <;> omega)) _)⟩
      · go_wp2_with (go_at_call 68; (with_reducible refine (realOk_b h _).mono ?_); rintro e w1 ⟨rfl, hb1⟩)
        go_roundw
        case rel => exact VRel.mk 1 (by omega) (by go_num) (apre_s HP.out h) (by (repeat' first | exact Below.refl _ _ | apply bl_alloc | apply bl_drewN | apply bl_drew | refine bl_trans ?_ (by assumption) | refine bl_set ?_ (by first | omega | (simp <;> omega)) _))
        case measure => simp [intOf]
    · cases h : realB m.b
      · go_wp2_with (go_at_call 68; (with_reducible refine (realOk_b h _).mono ?_); rintro e w1 ⟨rfl, hb1⟩)
        go_ret
        exact ⟨ret_bool (apre_no (k := 1) h 4 (by omega)).symm, by (repeat' first | exact Below.refl _ _ | apply bl_alloc | apply bl_drewN | apply bl_drew | refine bl_trans ?_ (by assumption) | refine bl_set ?_ (by first | omega | (simp <;> omega)) _)⟩
      · go_wp2_with (go_at_call 68; (with_reducible refine (realOk_b h _).mono ?_); rintro e w1 ⟨rfl, hb1⟩)
        go_roundw
        case rel => exact VRel.mk 2 (by omega) (by go_num) (apre_s HP.out h) (by (repeat' first | exact Below.refl _ _ | apply bl_alloc | apply bl_drewN | apply bl_drew | refine bl_trans ?_ (by assumption) | refine bl_set ?_ (by first | omega | (simp <;> omega)) _))
        case measure => simp [intOf]
    · cases h : realB m.c
      · go_wp2_with (go_at_call 68; (with_reducible refine (realOk_b h _).mono ?_); rintro e w1 ⟨rfl, hb1⟩)
        go_ret
        exact ⟨ret_bool (apre_no (k := 2) h 4 (by omega)).symm, by (repeat' first | exact Below.refl _ _ | apply bl_alloc | apply bl_drewN | apply bl_drew | refine bl_trans ?_ (by assumption) | refine bl_set ?_ (by first | omega | (simp <;> omega)) _)⟩
      · go_wp2_with (go_at_call 68; (with_reducible refine (realOk_b h _).mono ?_); rintro e w1 ⟨rfl, hb1⟩)
        go_roundw
        case rel => exact VRel.mk 3 (by omega) (by go_num) (apre_s HP.out h) (by (repeat' first | exact Below.refl _ _ | apply bl_alloc | apply bl_drewN | apply bl_drew | refine bl_trans ?_ (by assumption) | refine bl_set ?_ (by first | omega | (simp <;> omega)) _))
        case measure => simp [intOf]
    · cases h : realB m.d
      · go_wp2_with (go_at_call 68; (with_reducible refine (realOk_b h _).mono ?_); rintro e w1 ⟨rfl, hb1⟩)
        go_ret
        exact ⟨ret_bool (apre_no (k := 3) h 4 (by omega)).symm, by (repeat' first | exact Below.refl _ _ | apply bl_alloc | apply bl_drewN | apply bl_drew | refine bl_trans ?_ (by assumption) | refine bl_set ?_ (by first | omega | (simp <;> omega)) _)⟩
      · go_wp2_with (go_at_call 68; (with_reducible refine (realOk_b h _).mono ?_); rintro e w1 ⟨rfl, hb1⟩)
        go_roundw
        case rel => exact VRel.mk 4 (by omega) (by go_num) (apre_s HP.out h) (by (repeat' first | exact Below.refl _ _ | apply bl_alloc | apply bl_drewN | apply bl_drew | refine bl_trans ?_ (by assumption) | refine bl_set ?_ (by first | omega | (simp <;> omega)) _))
        case measure => simp [intOf]
    · go_wp2
      go_ret
      exact ⟨ret_bool HP.out.symm, by (repeat' first | exact Below.refl _ _ | apply bl_alloc | apply bl_drewN | apply bl_drew | refine bl_trans ?_ (by assumption) | refine bl_set ?_ (by first | omega | (simp <;> omega)) _)⟩
end Go.Proofs.YtmcokdiopcpifaaDoor
namespace Go.Proofs.YtmcokdiopcpifaaDoor
open Go.RowKit Pol
/-- What a call hands back that makes four fractions. -/
def M4Out (g : M4 × Bool) (w : World) (e : Ending) (w' : World) : Prop :=
  e = .returned (.tuple #[.agg #[.int .i64 g.1.a.re, .int .i64 g.1.a.im, .int .i64 g.1.a.den, .int .i64 g.1.b.re, .int .i64 g.1.b.im, .int .i64 g.1.b.den, .int .i64 g.1.c.re, .int .i64 g.1.c.im, .int .i64 g.1.c.den, .int .i64 g.1.d.re, .int .i64 g.1.d.im, .int .i64 g.1.d.den], .bool g.2]) ∧ Below w.heap.size w w'
theorem M4Out.yes {g : M4 × Bool} {f : M4} {w w' : World} (h2 : g.2 = true) (h1 : f = g.1) (hb : Below w.heap.size w w') : M4Out g w (.returned (.tuple #[.agg #[.int .i64 f.a.re, .int .i64 f.a.im, .int .i64 f.a.den, .int .i64 f.b.re, .int .i64 f.b.im, .int .i64 f.b.den, .int .i64 f.c.re, .int .i64 f.c.im, .int .i64 f.c.den, .int .i64 f.d.re, .int .i64 f.d.im, .int .i64 f.d.den], .bool true])) w' :=
  ⟨by rw [h1, h2], hb⟩
theorem M4Out.no {g : M4 × Bool} {w w' : World} (h2 : g = (m4z, false)) (hb : Below w.heap.size w w') : M4Out g w (.returned (.tuple #[.agg #[.int .i64 0, .int .i64 0, .int .i64 0, .int .i64 0, .int .i64 0, .int .i64 0, .int .i64 0, .int .i64 0, .int .i64 0, .int .i64 0, .int .i64 0, .int .i64 0], .bool false])) w' :=
  ⟨by rw [h2]; rfl, hb⟩
theorem Room.sm {b : Nat} {v : Bool} {W w1 : World} {N n : Nat} (h : Room W N n) (hs : Sm b v W w1) (hN : N < W.heap.size) (hne : N ≠ b) : Room w1 N n := fun j hj =>
  ⟨by rw [hs.atc N hN hne]; exact (h j hj).1, by rw [hs.atf N hN hne]; exact (h j hj).2⟩
theorem results_cell_mid2 {P : Program} {fn : Func} {p u : Tmp} {ty : TypeId} (h : fn.results = #[.cell p ty, .tmp u]) (tmps : Array Value) (w : World) (g : Nat) (cs : List Value) (d : TypeDesc)
    (hp : tmps.getD p undef = .pointer (some ⟨g, 0, none⟩)) (hc : w.rangeAt g 0 cs) (hu : P.underlying ty = some d) (hd : d.isRow = true) (hi : (P.info? ty).map (·.size) = some cs.length) :
    (results fn tmps).run P w = .ok (.tuple #[.agg cs.toArray, tmps.getD u undef]) w := by
  have hp' : tmps[p]?.getD undef = .pointer (some ⟨g, 0, none⟩) := by simpa using hp
  simp [results, h, hp', asAddr, run_loadVar_mid w g 0 ty cs d hc hu hd hi]
end Go.Proofs.YtmcokdiopcpifaaDoor
namespace Go.Proofs.YtmcokdiopcpifaaDoor
open Go.RowKit Pol
theorem M4Out.fn {g : M4 × Bool} {w w' : World} {e : Ending} (h : M4Out g w e w') : e = .returned (.tuple #[.agg #[.int .i64 g.1.a.re, .int .i64 g.1.a.im, .int .i64 g.1.a.den, .int .i64 g.1.b.re, .int .i64 g.1.b.im, .int .i64 g.1.b.den, .int .i64 g.1.c.re, .int .i64 g.1.c.im, .int .i64 g.1.c.den, .int .i64 g.1.d.re, .int .i64 g.1.d.im, .int .i64 g.1.d.den], .bool g.2]) ∧ Below w.heap.size w w' := h
end Go.Proofs.YtmcokdiopcpifaaDoor
namespace Go.Proofs.YtmcokdiopcpifaaDoor
open Go.RowKit Pol
/-- The first k pass; the box holds the fractions; nothing that was there has turned. -/
def XRel (p : Fr → Bool) (g : Nat → Fr) (n : Nat) (W : World) (i : Value) (wr : World) : Prop := ∃ k : Nat, k ≤ n ∧ i = .int .i64 k ∧ Hid (apre p g k = true) ∧ Below W.heap.size W wr ∧ W.heap.size + 1 ≤ wr.heap.size ∧ BoxAt wr W.heap.size g n
theorem XRel.mk {p : Fr → Bool} {g : Nat → Fr} {n : Nat} {W wr : World} {i : Value} (k : Nat) (h : k ≤ n) (hi : i = .int .i64 k) (hp : apre p g k = true) (hb : Below W.heap.size W wr) (hs : W.heap.size + 1 ≤ wr.heap.size) (hx : BoxAt wr W.heap.size g n) : XRel p g n W i wr := ⟨k, h, hi, hp, hb, hs, hx⟩
set_option maxHeartbeats 2000000 in
theorem sstokesvalid_any (m : M4) (w : World) :
    Calls Tryd.prog 141 #[.agg #[.int .i64 m.a.re, .int .i64 m.a.im, .int .i64 m.a.den, .int .i64 m.b.re, .int .i64 m.b.im, .int .i64 m.b.den, .int .i64 m.c.re, .int .i64 m.c.im, .int .i64 m.c.den, .int .i64 m.d.re, .int .i64 m.d.im, .int .i64 m.d.den]] w fun e w' => e = .returned (.bool (all4 realB m)) ∧ Below w.heap.size w w' := by
  have HS : Hid (∀ k, k < 4 → (#[.int .i64 m.a.re, .int .i64 m.a.im, .int .i64 m.a.den, .int .i64 m.b.re, .int .i64 m.b.im, .int .i64 m.b.den, .int .i64 m.c.re, .int .i64 m.c.im, .int .i64 m.c.den, .int .i64 m.d.re, .int .i64 m.d.im, .int .i64 m.d.den] : Array Value)[k * 3]? = some (.int .i64 (m.get k).re) ∧ (#[.int .i64 m.a.re, .int .i64 m.a.im, .int .i64 m.a.den, .int .i64 m.b.re, .int .i64 m.b.im, .int .i64 m.b.den, .int .i64 m.c.re, .int .i64 m.c.im, .int .i64 m.c.den, .int .i64 m.d.re, .int .i64 m.d.im, .int .i64 m.d.den] : Array Value)[k * 3 + 1]? = some (.int .i64 (m.get k).im) ∧ (#[.int .i64 m.a.re, .int .i64 m.a.im, .int .i64 m.a.den, .int .i64 m.b.re, .int .i64 m.b.im, .int .i64 m.b.den, .int .i64 m.c.re, .int .i64 m.c.im, .int .i64 m.c.den, .int .i64 m.d.re, .int .i64 m.d.im, .int .i64 m.d.den] : Array Value)[k * 3 + 2]? = some (.int .i64 (m.get k).den)) := by
    intro k hk
    have : k = 0 ∨ k = 1 ∨ k = 2 ∨ k = 3 := by omega
    rcases this with rfl | rfl | rfl | rfl <;> exact ⟨rfl, rfl, rfl⟩
  go_enter Tryd.func141, Tryd.ntmps141
  go_wp2
  go_loopw [3] (fun i wr => XRel realB m.get 4 w i wr) (fun i _ => (4 - intOf i).toNat)
  case atStart => exact XRel.mk 0 (by omega) rfl rfl (by (repeat' first | exact Below.refl _ _ | apply bl_alloc | apply bl_drewN | apply bl_drew | refine bl_trans ?_ (by assumption) | refine bl_set ?_ (by first | omega | (simp <;> omega)) _)) (by simp) (BoxAt.new _ _ _ _ _ HS.out)
  case round =>
    obtain ⟨k, hk, rfl, HP, hbw, hs, HX⟩ := hrel
    have HBW := Lib.hid hbw; clear hbw
    by_cases h5 : k < 4
    · obtain ⟨c0, c1, c2⟩ := HX k h5
      have i0 : (0 : Int) ≤ (k : Int) := by omega
      have i1 : (k : Int) < 4 := by omega
      cases h : vld (m.get k)
      · have HR : Hid (realB (m.get k) = false) := by show _ = _; unfold realB; rw [h]; rfl
        go_wp2_with (go_at_call 67; (with_reducible refine (svalid_fb h _).mono ?_); rintro e w1 ⟨rfl, hb⟩; have hb' := hb; obtain ⟨hc, hf, hz⟩ := bcellk (B := w.heap.size + 1) hb (by first | omega | (simp <;> omega)))
        go_ret
        exact ⟨ret_bool (apre_no (k := k) HR.out 4 (by omega)).symm, HBW.out.trans (hb'.mono HBW.out.size)⟩
      by_cases h0 : (m.get k).im = 0
      · have HR : Hid (realB (m.get k) = true) := by show _ = _; unfold realB; rw [h, h0]; rfl
        have h0' : ((m.get k).im != 0) = false := by simp [h0]
        clear h0
        go_wp2_with (go_at_call 67; (with_reducible refine (svalid_fb h _).mono ?_); rintro e w1 ⟨rfl, hb⟩; have hb' := hb; obtain ⟨hc, hf, hz⟩ := bcellk (B := w.heap.size + 1) hb (by first | omega | (simp <;> omega)))
        go_roundw
        case rel => exact XRel.mk (k + 1) (by omega) (by go_num) (apre_s HP.out HR.out) (HBW.out.trans (hb'.mono HBW.out.size)) (by omega) (HX.below hb' (by omega))
        case measure => simp [intOf]; omega
      · have HR : Hid (realB (m.get k) = false) := by show _ = _; unfold realB; rw [h]; simp [h0]
        have h0' : ((m.get k).im != 0) = true := by simp [h0]
        clear h0
        go_wp2_with (go_at_call 67; (with_reducible refine (svalid_fb h _).mono ?_); rintro e w1 ⟨rfl, hb⟩; have hb' := hb; obtain ⟨hc, hf, hz⟩ := bcellk (B := w.heap.size + 1) hb (by first | omega | (simp <;> omega)))
        go_ret
        exact ⟨ret_bool (apre_no (k := k) HR.out 4 (by omega)).symm, HBW.out.trans (hb'.mono HBW.out.size)⟩
    · obtain rfl : k = 4 := by omega
      go_wp2
      go_ret
      exact ⟨ret_bool HP.out.symm, HBW.out⟩
end Go.Proofs.YtmcokdiopcpifaaDoor
