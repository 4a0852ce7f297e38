/- Plain facts: plates. -/
import Derived.Test.YtmcokdiopcpifaaDoorPlQL
import Derived.Test.YtmcokdiopcpifaaDoorPlMP
set_option maxRecDepth 100000
namespace Go.Proofs.YtmcokdiopcpifaaDoor
open Pol
theorem low_small2 {re im den : Int} (h1 : -2000000000 ≤ re) (h2 : re ≤ 2000000000) (k1 : -2000000000 ≤ im) (k2 : im ≤ 2000000000) (h3 : 1 ≤ den) (h4 : den ≤ 2000000000) : low re im den = ((low re im den).1, true) ∧ vld (low re im den).1 = true ∧ rv (low re im den).1 = (re : Rat) / (den : Rat) ∧ iv (low re im den).1 = (im : Rat) / (den : Rat) := by
  have hB : lowB re im den = true := by
    unfold lowB inP cut
    have a1 := tdiv_small (g := g3 re im den) h1 h2
    have a2 := tdiv_small (g := g3 re im den) k1 k2
    have a3 := tdiv_small (g := g3 re im den) (a := den) (b := 2000000000) (by omega) h4
    simp only [Bool.and_eq_true, decide_eq_true_eq]
    exact ⟨⟨a1, a2⟩, a3.2⟩
  have e : low re im den = (cut re im den, true) := by unfold low; rw [if_pos hB]
  rw [e]
  obtain ⟨k1, k2, k3⟩ := (low_ok h3).1 e
  exact ⟨rfl, k1, k2, k3⟩
theorem sum_ok {x y : Fr} {A B D : Int} (vx : vld x = true) (vy : vld y = true) (hD : 1 ≤ D) (hD2 : D ≤ 2000000000) (a0 : -2000000000 ≤ A) (a1 : A ≤ 2000000000) (b0 : -2000000000 ≤ B) (b1 : B ≤ 2000000000) (hr : rv x + rv y = (A : Rat) / (D : Rat)) (hi : iv x + iv y = (B : Rat) / (D : Rat)) : ∃ z, fAdd x y = (z, true) ∧ vld z = true ∧ rv z = rv x + rv y ∧ iv z = iv x + iv y := by
  obtain ⟨-, v, r, i⟩ := low_small2 (re := A) (im := B) (den := D) a0 a1 b0 b1 hD hD2
  exact ⟨_, fAdd_ok.2 ⟨vx, vy, v, r.trans hr.symm, i.trans hi.symm⟩, v, r.trans hr.symm, i.trans hi.symm⟩
/-- A fraction with small parts. -/
structure Sml (a : Fr) : Prop where
  v : vld a = true
  r0 : -40000 ≤ a.re
  r1 : a.re ≤ 40000
  i0 : -40000 ≤ a.im
  i1 : a.im ≤ 40000
  d : a.den ≤ 40000
theorem tim_sm {x y : Fr} (hx : Sml x) (hy : Sml y) (iy : y.im = 0) : ∃ z, fTimes x y = (z, true) ∧ vld z = true ∧ rv z = rv x * rv y ∧ iv z = iv x * rv y := by
  have b1 : (x.re * y.re).natAbs ≤ 40000 * 40000 := by rw [Int.natAbs_mul]; exact Nat.mul_le_mul (by have := hx.r0; have := hx.r1; omega) (by have := hy.r0; have := hy.r1; omega)
  have b3 : (x.im * y.re).natAbs ≤ 40000 * 40000 := by rw [Int.natAbs_mul]; exact Nat.mul_le_mul (by have := hx.i0; have := hx.i1; omega) (by have := hy.r0; have := hy.r1; omega)
  have b2 : (x.den * y.den).natAbs ≤ 40000 * 40000 := by rw [Int.natAbs_mul]; exact Nat.mul_le_mul (by have := hx.d; have := vld_den hx.v; omega) (by have := hy.d; have := vld_den hy.v; omega)
  have hd : 1 ≤ x.den * y.den := den_mul_pos hx.v hy.v
  obtain ⟨e, v, r, i⟩ := low_small2 (re := x.re * y.re) (im := x.im * y.re) (den := x.den * y.den) (by omega) (by omega) (by omega) (by omega) hd (by omega)
  have et : fTimes x y = low (x.re * y.re) (x.im * y.re) (x.den * y.den) := by
    unfold fTimes
    rw [hx.v, hy.v, iy]
    simp
  have hok : fTimes x y = ((fTimes x y).1, true) := by rw [et]; exact e
  obtain ⟨-, -, vz, rz, iz⟩ := fTimes_ok.1 hok
  have jy : iv y = 0 := (iv_zero hy.v).2 iy
  exact ⟨_, hok, vz, by rw [rz, jy]; grind, by rw [iz, jy]; grind⟩
theorem g3_swap (a b c : Int) : g3 b a c = g3 a b c := by unfold g3; rw [gc_comm b a]
theorem vld_turn {a : Fr} (h : vld a = true) : vld ⟨-a.im, a.re, a.den⟩ = true := by
  obtain ⟨h1, h2, h3, h4⟩ := (vld_iff a).1 h
  exact (vld_iff _).2 ⟨⟨by show _ ≤ -a.im; omega, by show -a.im ≤ _; omega⟩, h1, h3, by show g3 (-a.im) a.re a.den = 1; rw [g3_neg_re, g3_swap]; exact h4⟩
theorem turn_rv (a : Fr) : rv ⟨-a.im, a.re, a.den⟩ = - iv a := by
  show ((-a.im : Int) : Rat) / (a.den : Rat) = -((a.im : Rat) / (a.den : Rat))
  rw [Rat.intCast_neg, Rat.div_def, Rat.div_def, Rat.neg_mul]
theorem fneg_rv (a : Fr) : rv (fNeg a) = - rv a := neg_rv ⟨a.re, a.im, a.den⟩
theorem fneg_iv (a : Fr) : iv (fNeg a) = - iv a := by
  show ((-a.im : Int) : Rat) / (a.den : Rat) = -((a.im : Rat) / (a.den : Rat))
  rw [Rat.intCast_neg, Rat.div_def, Rat.div_def, Rat.neg_mul]
theorem Sml.turn {a : Fr} (h : Sml a) : Sml ⟨-a.im, a.re, a.den⟩ := ⟨vld_turn h.v, by show _ ≤ -a.im; have := h.i1; omega, by show -a.im ≤ _; have := h.i0; omega, h.r0, h.r1, h.d⟩
theorem Sml.neg {a : Fr} (h : Sml a) : Sml (fNeg a) := ⟨(vld_neg a).trans h.v, by show _ ≤ -a.re; have := h.r1; omega, by show -a.re ≤ _; have := h.r0; omega, by show _ ≤ -a.im; have := h.i1; omega, by show -a.im ≤ _; have := h.i0; omega, h.d⟩
/-- The four phases. -/
def Pha (k F G : Int) : Prop := phF k = ⟨F, G, 1⟩ ∧ ((F = 1 ∧ G = 0) ∨ (F = 0 ∧ G = 1) ∨ (F = -1 ∧ G = 0) ∨ (F = 0 ∧ G = -1))
theorem pha_val {k F G : Int} (h : Pha k F G) : vld (phF k) = true ∧ rv (phF k) = (F : Rat) ∧ iv (phF k) = (G : Rat) := by
  obtain ⟨e, hh⟩ := h
  rw [e]
  refine ⟨by rcases hh with ⟨rfl, rfl⟩ | ⟨rfl, rfl⟩ | ⟨rfl, rfl⟩ | ⟨rfl, rfl⟩ <;> decide, ?_, ?_⟩
  · show (F : Rat) / ((1 : Int) : Rat) = F
    rw [Rat.intCast_one]; grind
  · show (G : Rat) / ((1 : Int) : Rat) = G
    rw [Rat.intCast_one]; grind
theorem ph_times {k F G : Int} (h : Pha k F G) {a : Fr} (ha : Sml a) : ∃ z, fTimes a (phF k) = (z, true) ∧ Sml z ∧ rv z = rv a * F - iv a * G ∧ iv z = rv a * G + iv a * F := by
  obtain ⟨v, r, i⟩ := pha_val h
  have key : ∃ z, Sml z ∧ rv z = rv a * F - iv a * G ∧ iv z = rv a * G + iv a * F := by
    rcases h.2 with ⟨rfl, rfl⟩ | ⟨rfl, rfl⟩ | ⟨rfl, rfl⟩ | ⟨rfl, rfl⟩
    · exact ⟨a, ha, by grind, by grind⟩
    · exact ⟨_, ha.turn, by rw [turn_rv]; grind, by show rv a = _; grind⟩
    · exact ⟨_, ha.neg, by rw [fneg_rv]; grind, by rw [fneg_iv]; grind⟩
    · refine ⟨_, ha.neg.turn, by rw [turn_rv, fneg_iv]; grind, ?_⟩
      show rv (fNeg a) = _
      rw [fneg_rv]; grind
  obtain ⟨z, hz, rz, iz⟩ := key
  exact ⟨z, fTimes_ok.2 ⟨ha.v, v, hz.v, by rw [r, i]; exact rz, by rw [r, i]; exact iz⟩, hz, rz, iz⟩
/-- What a plate's parts hold. -/
structure PVal (o : M4) (C S f g : Rat) : Prop where
  v : all4 vld o = true
  ra : rv o.a = C * C + f * (S * S)
  ia : iv o.a = g * (S * S)
  rb : rv o.b = C * S * (1 - f)
  ib : iv o.b = -(C * S * g)
  rc : rv o.c = C * S * (1 - f)
  ic : iv o.c = -(C * S * g)
  rd : rv o.d = S * S + f * (C * C)
  id : iv o.d = g * (C * C)
theorem cast4 (X F Y : Int) : ((X + F * Y : Int) : Rat) = (X : Rat) + F * Y := by rw [Rat.intCast_add, Rat.intCast_mul]
theorem eqd {N E A : Rat} (h : N ≠ 0) (k : E * (N * N) = A) : E = A / (N * N) := by rw [← k]; grind
theorem pl1 (c s f g N : Rat) : (c * c + (-s * f - 0 * g) * -s) * (N * N) = c * N * (c * N) + f * (s * N * (s * N)) := by grind
theorem pl2 (c s f g N : Rat) : (0 * c + (-s * g + 0 * f) * -s) * (N * N) = g * (s * N * (s * N)) := by grind
theorem pl3 (c s f g N : Rat) : (c * s + (-s * f - 0 * g) * c) * (N * N) = c * N * (s * N) - f * (c * N * (s * N)) := by grind
theorem pl4 (c s f g N : Rat) : (0 * s + (-s * g + 0 * f) * c) * (N * N) = -(g * (c * N * (s * N))) := by grind
theorem pl5 (c s f g N : Rat) : (s * c + (c * f - 0 * g) * -s) * (N * N) = c * N * (s * N) - f * (c * N * (s * N)) := by grind
theorem pl6 (c s f g N : Rat) : (0 * c + (c * g + 0 * f) * -s) * (N * N) = -(g * (c * N * (s * N))) := by grind
theorem pl7 (c s f g N : Rat) : (s * s + (c * f - 0 * g) * c) * (N * N) = s * N * (s * N) + f * (c * N * (c * N)) := by grind
theorem pl8 (c s f g N : Rat) : (0 * s + (c * g + 0 * f) * c) * (N * N) = g * (c * N * (c * N)) := by grind
theorem law_pla {p q k F G : Int} (h : dirB p q = true) (hk : wi k 0 3 = true) (hp : Pha k F G) : ∃ o, gPla p q k = (o, true) ∧ PVal o (rv (dC p q)) (rv (dS p q)) F G := by
  obtain ⟨⟨pa, pb⟩, ⟨qa, qb⟩, hn⟩ := dir_bd h
  have D := dir_all h
  obtain ⟨-, -, -, -, hC, hS, -⟩ := dir_ok h
  have s1 := sq_bd pa pb
  have s2 := sq_bd qa qb
  have s3 := pr_bd pa pb qa qb
  obtain ⟨c, hc⟩ : ∃ c, c = dC p q := ⟨_, rfl⟩
  obtain ⟨s, hs⟩ : ∃ s, s = dS p q := ⟨_, rfl⟩
  obtain ⟨t, ht⟩ : ∃ t : Fr, t = ⟨-s.re, s.im, s.den⟩ := ⟨_, rfl⟩
  obtain ⟨U, hU⟩ : ∃ U, U = p * p - q * q := ⟨_, rfl⟩
  obtain ⟨W, hW⟩ : ∃ W, W = 2 * p * q := ⟨_, rfl⟩
  obtain ⟨N, hN⟩ : ∃ N, N = p * p + q * q := ⟨_, rfl⟩
  have ho : gRot p q = (⟨c, t, s, c⟩, true) := by unfold gRot; rw [if_pos h, ← hc, ← hs, ht]
  obtain ⟨vc, vs, ic, is, c0, c1, s0, s1', cd, sd, -⟩ := D
  rw [← hc] at vc ic c0 c1 cd hC
  rw [← hs] at vs is s0 s1' sd hS
  rw [← hU, ← hN] at hC
  rw [← hW, ← hN] at hS
  rw [← hN] at hn
  have u1 : -10000 ≤ U ∧ U ≤ 10000 := by omega
  have w1 : -20000 ≤ W ∧ W ≤ 20000 := by omega
  have n1 : N ≤ 20000 := by omega
  clear hU hW hN s1 s2 s3 pa pb qa qb
  have Sc : Sml c := ⟨vc, c0, c1, by omega, by omega, cd⟩
  have Ss : Sml s := ⟨vs, s0, s1', by omega, by omega, sd⟩
  have St : Sml t := by
    rw [ht]
    exact ⟨(vld_back _).trans vs, by show _ ≤ -s.re; omega, by show -s.re ≤ _; omega, by show _ ≤ s.im; omega, by show s.im ≤ _; omega, sd⟩
  have it : t.im = 0 := by rw [ht]; exact is
  have jc : iv c = 0 := (iv_zero vc).2 ic
  have js : iv s = 0 := (iv_zero vs).2 is
  have jt : iv t = 0 := (iv_zero St.v).2 it
  have rt : rv t = - rv s := by rw [ht]; exact neg_rv s
  have hadj : gAdj (⟨c, t, s, c⟩ : M4) = (⟨c, s, t, c⟩, true) := by
    have ho4 : all4 vld (⟨c, t, s, c⟩ : M4) = true := all4_iff.2 ⟨vc, St.v, vs, vc⟩
    rw [gAdj_y ho4]
    show ((⟨fConj c, fConj s, fConj t, fConj c⟩ : M4), true) = _
    rw [conj_real vc jc, conj_real vs js, conj_real St.v jt]
  obtain ⟨vp, rp, ip⟩ := pha_val hp
  obtain ⟨tp, htp, Stp, rtp, itp⟩ := ph_times hp St
  obtain ⟨cp, hcp, Scp, rcp, icp⟩ := ph_times hp Sc
  have hA : mTm (⟨c, t, s, c⟩ : M4) (dgM (phF k)) = (⟨c, tp, s, cp⟩, true) := by
    refine mTm_make (all4_iff.2 ⟨vc, St.v, vs, vc⟩) (all4_iff.2 ⟨v1, vld_f0, vld_f0, vp⟩) ?_ ?_ ?_ ?_
    · show fIn c Pol.f1 t f0 = (c, true)
      unfold fIn; rw [one_r vc, zero_r St.v]; simp only [Bool.and_self, if_true]; exact add0_r vc
    · show fIn c f0 t (phF k) = (tp, true)
      unfold fIn; rw [zero_r vc, htp]; simp only [Bool.and_self, if_true]; exact add0_l Stp.v
    · show fIn s Pol.f1 c f0 = (s, true)
      unfold fIn; rw [one_r vs, zero_r vc]; simp only [Bool.and_self, if_true]; exact add0_r vs
    · show fIn s f0 c (phF k) = (cp, true)
      unfold fIn; rw [zero_r vs, hcp]; simp only [Bool.and_self, if_true]; exact add0_l Scp.v
  obtain ⟨cc, hcc, vcc, rcc, icc⟩ := tim_sm Sc Sc ic
  obtain ⟨x1, hx1, vx1, rx1, ix1⟩ := tim_sm Stp St it
  obtain ⟨cs, hcs, vcs, rcs, ics⟩ := tim_sm Sc Ss is
  obtain ⟨x2, hx2, vx2, rx2, ix2⟩ := tim_sm Stp Sc ic
  obtain ⟨sc, hsc, vsc, rsc, isc⟩ := tim_sm Ss Sc ic
  obtain ⟨x3, hx3, vx3, rx3, ix3⟩ := tim_sm Scp St it
  obtain ⟨ss, hss, vss, rss, iss⟩ := tim_sm Ss Ss is
  obtain ⟨x4, hx4, vx4, rx4, ix4⟩ := tim_sm Scp Sc ic
  have hNr : (N : Rat) ≠ 0 := castInt_ne hn
  have bU : (U * U).natAbs ≤ 10000 * 10000 := by rw [Int.natAbs_mul]; exact Nat.mul_le_mul (by omega) (by omega)
  have bW : (W * W).natAbs ≤ 20000 * 20000 := by rw [Int.natAbs_mul]; exact Nat.mul_le_mul (by omega) (by omega)
  have bV : (U * W).natAbs ≤ 10000 * 20000 := by rw [Int.natAbs_mul]; exact Nat.mul_le_mul (by omega) (by omega)
  have bN : (N * N).natAbs ≤ 20000 * 20000 := by rw [Int.natAbs_mul]; exact Nat.mul_le_mul (by omega) (by omega)
  have pN : 1 ≤ N * N := by
    have : N * 1 ≤ N * N := Int.mul_le_mul_of_nonneg_left (by omega) (by omega)
    omega
  obtain ⟨X, hX⟩ : ∃ X, X = U * U := ⟨_, rfl⟩
  obtain ⟨Y, hY⟩ : ∃ Y, Y = W * W := ⟨_, rfl⟩
  obtain ⟨Z, hZ⟩ : ∃ Z, Z = U * W := ⟨_, rfl⟩
  obtain ⟨M, hM⟩ : ∃ M, M = N * N := ⟨_, rfl⟩
  have cX : (X : Rat) = U * U := by rw [hX, Rat.intCast_mul]
  have cY : (Y : Rat) = W * W := by rw [hY, Rat.intCast_mul]
  have cZ : (Z : Rat) = U * W := by rw [hZ, Rat.intCast_mul]
  have cM : (M : Rat) = N * N := by rw [hM, Rat.intCast_mul]
  rw [← hX] at bU
  rw [← hY] at bW
  rw [← hZ] at bV
  rw [← hM] at bN pN
  have hFG := hp.2
  have bd : ∀ E : Int, E.natAbs ≤ 400000000 → (-400000000 ≤ F * E ∧ F * E ≤ 400000000) ∧ (-400000000 ≤ G * E ∧ G * E ≤ 400000000) := fun E hE => by
    rcases hFG with ⟨rfl, rfl⟩ | ⟨rfl, rfl⟩ | ⟨rfl, rfl⟩ | ⟨rfl, rfl⟩ <;> omega
  have bX := bd X (by omega)
  have bY := bd Y (by omega)
  have bZ := bd Z (by omega)
  have hU : (U : Rat) = rv c * N := by rw [hC]; grind
  have hW : (W : Rat) = rv s * N := by rw [hS]; grind
  obtain ⟨a, ha, va, ra, ia⟩ := sum_ok (A := X + F * Y) (B := G * Y) (D := M) vcc vx1 pN (by omega) (by omega) (by omega) (by omega) (by omega)
    (by rw [rcc, rx1, rtp, jt, rt, cast4, cX, cY, cM, hU, hW]; exact eqd hNr (pl1 _ _ _ _ _)) (by rw [icc, jc, ix1, itp, jt, rt, Rat.intCast_mul, cY, cM, hW]; exact eqd hNr (pl2 _ _ _ _ _))
  obtain ⟨b, hb, vb, rb, ib⟩ := sum_ok (A := Z - F * Z) (B := -(G * Z)) (D := M) vcs vx2 pN (by omega) (by omega) (by omega) (by omega) (by omega)
    (by rw [rcs, rx2, rtp, jt, rt, Rat.intCast_sub, Rat.intCast_mul, cZ, cM, hU, hW]; exact eqd hNr (pl3 _ _ _ _ _)) (by rw [ics, jc, ix2, itp, jt, rt, Rat.intCast_neg, Rat.intCast_mul, cZ, cM, hU, hW]; exact eqd hNr (pl4 _ _ _ _ _))
  obtain ⟨d, hd, vd, rd, id⟩ := sum_ok (A := Z - F * Z) (B := -(G * Z)) (D := M) vsc vx3 pN (by omega) (by omega) (by omega) (by omega) (by omega)
    (by rw [rsc, rx3, rcp, jc, rt, Rat.intCast_sub, Rat.intCast_mul, cZ, cM, hU, hW]; exact eqd hNr (pl5 _ _ _ _ _)) (by rw [isc, js, ix3, icp, jc, rt, Rat.intCast_neg, Rat.intCast_mul, cZ, cM, hU, hW]; exact eqd hNr (pl6 _ _ _ _ _))
  obtain ⟨e, he, ve, re, ie⟩ := sum_ok (A := Y + F * X) (B := G * X) (D := M) vss vx4 pN (by omega) (by omega) (by omega) (by omega) (by omega)
    (by rw [rss, rx4, rcp, jc, cast4, cX, cY, cM, hU, hW]; exact eqd hNr (pl7 _ _ _ _ _)) (by rw [iss, js, ix4, icp, jc, Rat.intCast_mul, cX, cM, hU]; exact eqd hNr (pl8 _ _ _ _ _))
  have hB : mTm (⟨c, tp, s, cp⟩ : M4) ⟨c, s, t, c⟩ = (⟨a, b, d, e⟩, true) := by
    refine mTm_make (all4_iff.2 ⟨vc, Stp.v, vs, Scp.v⟩) (all4_iff.2 ⟨vc, vs, St.v, vc⟩) ?_ ?_ ?_ ?_ <;> unfold fIn
    · rw [hcc, hx1]; simp only [Bool.and_self, if_true]; exact ha
    · rw [hcs, hx2]; simp only [Bool.and_self, if_true]; exact hb
    · rw [hsc, hx3]; simp only [Bool.and_self, if_true]; exact hd
    · rw [hss, hx4]; simp only [Bool.and_self, if_true]; exact he
  refine ⟨⟨a, b, d, e⟩, by rw [gPla_3 h hk ho hadj hA hB]; rfl, ?_⟩
  rw [← hc, ← hs]
  refine ⟨all4_iff.2 ⟨va, vb, vd, ve⟩, ?_, ?_, ?_, ?_, ?_, ?_, ?_, ?_⟩
  · show rv a = _; rw [ra, rcc, rx1, rtp, jt, rt]; grind
  · show iv a = _; rw [ia, icc, jc, ix1, itp, jt, rt]; grind
  · show rv b = _; rw [rb, rcs, rx2, rtp, jt, rt]; grind
  · show iv b = _; rw [ib, ics, jc, ix2, itp, jt, rt]; grind
  · show rv d = _; rw [rd, rsc, rx3, rcp, jc, rt]; grind
  · show iv d = _; rw [id, isc, js, ix3, icp, jc, rt]; grind
  · show rv e = _; rw [re, rss, rx4, rcp, jc]; grind
  · show iv e = _; rw [ie, iss, js, ix4, icp, jc]; grind
theorem pla_one {p q : Int} (h : dirB p q = true) : rv (dC p q) * rv (dC p q) + rv (dS p q) * rv (dS p q) = 1 := (dir_all h).one
theorem pla_los {o : M4} {C S f g : Rat} (h : PVal o C S f g) (h1 : C * C + S * S = 1) (hf : f * f + g * g = 1) {X : M4} (k : mTm o (mC o) = (X, true)) : gLos o = true := by
  obtain ⟨-, -, ka, kb, kc, kd⟩ := mTm_parts k
  obtain ⟨w1, q1, u1⟩ := fIn_ok ka
  obtain ⟨w2, q2, u2⟩ := fIn_ok kb
  obtain ⟨w3, q3, u3⟩ := fIn_ok kc
  obtain ⟨w4, q4, u4⟩ := fIn_ok kd
  simp only [mC, conj_rv, conj_iv, h.ra, h.ia, h.rb, h.ib, h.rc, h.ic, h.rd, h.id] at q1 q2 q3 q4 u1 u2 u3 u4
  have hT : (C * C + S * S) * (C * C + S * S) = 1 := by rw [h1]; grind
  have e : X = mOne := by
    refine m4_ext (val_inj w1 v1 ?_ ?_) (val_inj w2 vld_f0 ?_ ?_) (val_inj w3 vld_f0 ?_ ?_) (val_inj w4 v1 ?_ ?_)
    · show _ = rv Pol.f1; rw [r1, q1]; grind
    · show _ = iv Pol.f1; rw [i1, u1]; grind
    · show _ = rv f0; rw [rv_f0, q2]; grind
    · show _ = iv f0; rw [iv_f0, u2]; grind
    · show _ = rv f0; rw [rv_f0, q3]; grind
    · show _ = iv f0; rw [iv_f0, u3]; grind
    · show _ = rv Pol.f1; rw [r1, q4]; grind
    · show _ = iv Pol.f1; rw [i1, u4]; grind
  exact gLos_make h.v (by rw [k, e])
theorem pla_det {o : M4} {C S f g : Rat} (h : PVal o C S f g) (h1 : C * C + S * S = 1) {d P : Fr} (k : gDet o = (d, true)) (vP : vld P = true) (rP : rv P = f) (iP : iv P = g) : d = P := by
  obtain ⟨-, v, r, i⟩ := gDet_ok k
  simp only [h.ra, h.ia, h.rb, h.ib, h.rc, h.ic, h.rd, h.id] at r i
  have hT : (C * C + S * S) * (C * C + S * S) = 1 := by rw [h1]; grind
  refine val_inj v vP ?_ ?_
  · have e : rv d = f * ((C * C + S * S) * (C * C + S * S)) := by rw [r]; grind
    rw [e, hT, rP]; grind
  · have e : iv d = g * ((C * C + S * S) * (C * C + S * S)) := by rw [i]; grind
    rw [e, hT, iP]; grind
theorem pla_mul {o u y X : M4} {C S f g f' g' : Rat} (h : PVal o C S f g) (hu : PVal u C S f' g') (hy : PVal y C S (f * f' - g * g') (f * g' + g * f')) (h1 : C * C + S * S = 1) (k : mTm o u = (X, true)) : X = y := by
  obtain ⟨-, -, ka, kb, kc, kd⟩ := mTm_parts k
  obtain ⟨w1, q1, u1⟩ := fIn_ok ka
  obtain ⟨w2, q2, u2⟩ := fIn_ok kb
  obtain ⟨w3, q3, u3⟩ := fIn_ok kc
  obtain ⟨w4, q4, u4⟩ := fIn_ok kd
  simp only [h.ra, h.ia, h.rb, h.ib, h.rc, h.ic, h.rd, h.id, hu.ra, hu.ia, hu.rb, hu.ib, hu.rc, hu.ic, hu.rd, hu.id] at q1 q2 q3 q4 u1 u2 u3 u4
  obtain ⟨va, vb, vc, vd⟩ := all4_iff.1 hy.v
  have hS : S * S = 1 - C * C := by grind
  refine m4_ext (val_inj w1 va ?_ ?_) (val_inj w2 vb ?_ ?_) (val_inj w3 vc ?_ ?_) (val_inj w4 vd ?_ ?_)
  · rw [q1, hy.ra]; grind
  · rw [u1, hy.ia]; grind
  · rw [q2, hy.rb]; grind
  · rw [u2, hy.ib]; grind
  · rw [q3, hy.rc]; grind
  · rw [u3, hy.ic]; grind
  · rw [q4, hy.rd]; grind
  · rw [u4, hy.id]; grind
end Go.Proofs.YtmcokdiopcpifaaDoor
