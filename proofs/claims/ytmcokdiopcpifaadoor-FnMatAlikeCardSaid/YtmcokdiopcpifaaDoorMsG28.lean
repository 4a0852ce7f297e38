/- Contracts: a matrix upon a vector, both sides. -/
import Derived.Test.YtmcokdiopcpifaaDoorMsMBN
import Derived.Test.YtmcokdiopcpifaaDoorMsN
import Derived.Test.YtmcokdiopcpifaaDoorMsG18
import Derived.Test.YtmcokdiopcpifaaDoorMsG20
import Derived.Test.YtmcokdiopcpifaaDoorMsG1
import Derived.Test.YtmcokdiopcpifaaDoorMsG12
set_option maxRecDepth 100000
namespace Go.Proofs.YtmcokdiopcpifaaDoor
open Go.RowKit Pol
def mAp (m : M4) (x : J2) : J2 × Bool := if all4 vld m = true then if jv x = true then if ((fIn (m.get 0) x.x (m.get 1) x.y).2 && (fIn (m.get 2) x.x (m.get 3) x.y).2) = true then (⟨(fIn (m.get 0) x.x (m.get 1) x.y).1, (fIn (m.get 2) x.x (m.get 3) x.y).1⟩, true) else (j2z, false) else (j2z, false) else (j2z, false)
theorem mApI_eq (m : M4) (x : J2) : mApI m x = mAp m x := by
  have e : mApI m x = gt j2z (eIn (eIn (false || !(all4 vld m && jv x)) (m.get 0) x.x (m.get 1) x.y) (m.get 2) x.x (m.get 3) x.y) ⟨(fAdd (fTimes (m.get 0) x.x).1 (fTimes (m.get 1) x.y).1).1, (fAdd (fTimes (m.get 2) x.x).1 (fTimes (m.get 3) x.y).1).1⟩ := rfl
  rw [e, eIn_eq, eIn_eq]
  unfold gt mAp
  cases h1 : all4 vld m
  · simp
  cases h2 : jv x
  · simp
  cases h3 : (fIn (m.get 0) x.x (m.get 1) x.y).2
  · simp
  cases h4 : (fIn (m.get 2) x.x (m.get 3) x.y).2
  · simp
  simp [fIn_val h3, fIn_val h4]
theorem imap_m (m : M4) (x : J2) (w : World) : Calls Tryd.prog 60 #[.agg #[.int .i64 m.a.re, .int .i64 m.a.im, .int .i64 m.a.den, .int .i64 m.b.re, .int .i64 m.b.im, .int .i64 m.b.den, .int .i64 m.c.re, .int .i64 m.c.im, .int .i64 m.c.den, .int .i64 m.d.re, .int .i64 m.d.im, .int .i64 m.d.den], .agg #[.int .i64 x.x.re, .int .i64 x.x.im, .int .i64 x.x.den, .int .i64 x.y.re, .int .i64 x.y.im, .int .i64 x.y.den]] w (J2Out (mAp m x) w) := mApI_eq m x ▸ imap m x w
end Go.Proofs.YtmcokdiopcpifaaDoor
namespace Go.Proofs.YtmcokdiopcpifaaDoor
open Pol
theorem gMAl_iff {a b : M4} : gMAl a b = true ↔ all4 vld a = true ∧ all4 vld b = true ∧ alB a b = true ∧ dkM a = dkM b := by
  unfold gMAl; simp [and_assoc]
theorem gJAl_iff {a b : J2} : gJAl a b = true ↔ (fTimes a.x b.y).2 = true ∧ (fTimes a.y b.x).2 = true ∧ jv a = true ∧ jv b = true ∧ (fTimes a.x b.y).1 = (fTimes a.y b.x).1 ∧ dkJ a = dkJ b := by
  unfold gJAl; simp [and_assoc, frEq_iff]
section jx
variable {x1 x2 y1 y2 z1 z2 w1 w2 : Rat}
end jx
theorem sq4 {x y z w : Rat} (h : x * x + y * y + (z * z + w * w) = 0) : (x = 0 ∧ y = 0) ∧ z = 0 ∧ w = 0 := by
  have a := sq_nn x
  have b := sq_nn y
  have c := sq_nn z
  have d := sq_nn w
  have hx : x * x = 0 := by grind
  have hy : y * y = 0 := by grind
  have hz : z * z = 0 := by grind
  have hw : w * w = 0 := by grind
  refine ⟨⟨?_, ?_⟩, ?_, ?_⟩
  · rcases Rat.mul_eq_zero.1 hx with h | h <;> exact h
  · rcases Rat.mul_eq_zero.1 hy with h | h <;> exact h
  · rcases Rat.mul_eq_zero.1 hz with h | h <;> exact h
  · rcases Rat.mul_eq_zero.1 hw with h | h <;> exact h
theorem cz {x1 x2 c1 c2 : Rat} (hc : ¬ (c1 = 0 ∧ c2 = 0)) (h : x1 * c1 - x2 * c2 = 0) (k : x1 * c2 + x2 * c1 = 0) : x1 = 0 ∧ x2 = 0 := by
  have e : (x1 * x1 + x2 * x2) * (c1 * c1 + c2 * c2) = (x1 * c1 - x2 * c2) * (x1 * c1 - x2 * c2) + (x1 * c2 + x2 * c1) * (x1 * c2 + x2 * c1) := by grind
  rw [h, k] at e
  have e0 : (x1 * x1 + x2 * x2) * (c1 * c1 + c2 * c2) = 0 := by grind
  rcases Rat.mul_eq_zero.1 e0 with h1 | h1
  · have := sq4 (x := x1) (y := x2) (z := 0) (w := 0) (by rw [h1]; grind)
    exact this.1
  · have := sq4 (x := c1) (y := c2) (z := 0) (w := 0) (by rw [h1]; grind)
    exact absurd this.1 hc
theorem c_nz {c : Fr} (h : vld c = true) (hc : ¬ (c.re = 0 ∧ c.im = 0)) : ¬ (rv c = 0 ∧ iv c = 0) := fun ⟨h1, h2⟩ => hc ⟨(rv_zero h).1 h1, (iv_zero h).1 h2⟩
theorem times_dk {x y c : Fr} (h : fTimes x c = (y, true)) (hc : ¬ (c.re = 0 ∧ c.im = 0)) : dkF x = dkF y := by
  obtain ⟨v1, v2, v3, r, i⟩ := fTimes_ok.1 h
  rw [Bool.eq_iff_iff, dkF_iff v1, dkF_iff v3]
  constructor
  · rintro ⟨h1, h2⟩; rw [r, i, h1, h2]; constructor <;> grind
  · rintro ⟨h1, h2⟩
    rw [r] at h1; rw [i] at h2
    exact cz (c_nz v2 hc) h1 h2
theorem mSca_parts {a o : M4} {c : Fr} (h : mSca a c = (o, true)) : all4 vld a = true ∧ vld c = true ∧ ∀ k, k < 4 → fTimes (a.get k) c = (o.get k, true) := by
  have h2 : (mSca a c).2 = true := by rw [h]
  obtain ⟨⟨he, hk⟩, hv⟩ := m4l_ok h2
  simp only [Bool.false_or, Bool.not_eq_false', Bool.and_eq_true] at he
  refine ⟨he.1, he.2, fun k hk4 => ?_⟩
  have : o = m4f (sTimF a c) := by
    have h3 : (mSca a c).1 = o := by rw [h]
    rw [← h3]; exact hv
  rw [this, m4f_get _ hk4]
  exact pair_t (hk k hk4)
theorem law_scale {a o : M4} {c : Fr} (h : mSca a c = (o, true)) (hc : ¬ (c.re = 0 ∧ c.im = 0)) (sa : ∀ k, k < 4 → sm1 (a.get k) = true) (so : ∀ k, k < 4 → sm1 (o.get k) = true) : gMAl a o = true := by
  obtain ⟨va, vc, hk⟩ := mSca_parts h
  have vo : ∀ k, k < 4 → vld (o.get k) = true := fun k h4 => (fTimes_ok.1 (hk k h4)).2.2.1
  refine gMAl_iff.2 ⟨va, all4_iff.2 ⟨vo 0 (by omega), vo 1 (by omega), vo 2 (by omega), vo 3 (by omega)⟩, alB_all fun i k hki hi => ?_, ?_⟩
  · have hk4 : k < 4 := by omega
    have wi := all4_get va i hi
    have wk := all4_get va k hk4
    obtain ⟨-, -, -, ri, ii⟩ := fTimes_ok.1 (hk i hi)
    obtain ⟨-, -, -, rk, ik⟩ := fTimes_ok.1 (hk k hk4)
    refine gpB_of (sm_times wi (vo k hk4) (sa i hi) (so k hk4)) (sm_times wk (vo i hi) (sa k hk4) (so i hi)) ?_ ?_
    · rw [ri, ii, rk, ik]; grind
    · rw [ri, ii, rk, ik]; grind
  · unfold dkM
    rw [show dkF a.a = dkF o.a from times_dk (hk 0 (by omega)) hc, show dkF a.b = dkF o.b from times_dk (hk 1 (by omega)) hc, show dkF a.c = dkF o.c from times_dk (hk 2 (by omega)) hc, show dkF a.d = dkF o.d from times_dk (hk 3 (by omega)) hc]
theorem dk_step {x y z w : Fr} (hx : vld x = true) (hz : vld z = true) (hw : vld w = true) (e1 : rv x * rv w - iv x * iv w = rv y * rv z - iv y * iv z) (e2 : rv x * iv w + iv x * rv w = rv y * iv z + iv y * rv z) (hd : dkF z = true) (hn : dkF w = false) : dkF x = true := by
  rw [dkF_iff hx]
  obtain ⟨z1, z2⟩ := (dkF_iff hz).1 hd
  have nw : ¬ (rv w = 0 ∧ iv w = 0) := fun k => by rw [(dkF_iff hw).2 k] at hn; cases hn
  exact cz nw (by rw [e1, z1, z2]; grind) (by rw [e2, z1, z2]; grind)
theorem dk_col {a b : M4} (va : all4 vld a = true) (vb : all4 vld b = true) (h : alB a b = true) (hd : dkM a = dkM b) (hc : (dkF b.a && dkF b.c) = true) : (dkF a.a && dkF a.c) = true := by
  simp only [Bool.and_eq_true] at hc ⊢
  obtain ⟨c1, c2⟩ := hc
  have wa := all4_iff.1 va
  have wb := all4_iff.1 vb
  have X : ∀ i k, i < 4 → k < 4 → i ≠ k → _ := fun i k h1 h2 h3 => gpB_val (alB_iff.1 h i k h1 h2 h3)
  cases hb : dkF b.b
  · have x1 := X 0 1 (by omega) (by omega) (by omega)
    have x2 := X 2 1 (by omega) (by omega) (by omega)
    exact ⟨dk_step (x := a.a) (y := a.b) (z := b.a) (w := b.b) wa.1 wb.1 wb.2.1 x1.1 x1.2 c1 hb, dk_step (x := a.c) (y := a.b) (z := b.c) (w := b.b) wa.2.2.1 wb.2.2.1 wb.2.1 x2.1 x2.2 c2 hb⟩
  · cases hb2 : dkF b.d
    · have x1 := X 0 3 (by omega) (by omega) (by omega)
      have x2 := X 2 3 (by omega) (by omega) (by omega)
      exact ⟨dk_step (x := a.a) (y := a.d) (z := b.a) (w := b.d) wa.1 wb.1 wb.2.2.2 x1.1 x1.2 c1 hb2, dk_step (x := a.c) (y := a.d) (z := b.c) (w := b.d) wa.2.2.1 wb.2.2.1 wb.2.2.2 x2.1 x2.2 c2 hb2⟩
    · have : dkM b = true := by unfold dkM; rw [c1, c2, hb, hb2]; rfl
      rw [this] at hd
      unfold dkM at hd
      simp only [Bool.and_eq_true] at hd
      exact ⟨hd.1.1.1, hd.1.2⟩
theorem law_malike {a b : M4} (h : gMAl a b = true) (p : (fTimes a.a b.c).2 = true) (q : (fTimes a.c b.a).2 = true) : gJAl ⟨a.a, a.c⟩ ⟨b.a, b.c⟩ = true := by
  obtain ⟨va, vb, hx, hd⟩ := gMAl_iff.1 h
  have wa := all4_iff.1 va
  have wb := all4_iff.1 vb
  have x1 := gpB_val (alB_iff.1 hx 0 2 (by omega) (by omega) (by omega))
  refine gJAl_iff.2 ⟨p, q, jv_iff.2 ⟨wa.1, wa.2.2.1⟩, jv_iff.2 ⟨wb.1, wb.2.2.1⟩, times_eq p q x1.1 x1.2, ?_⟩
  show (dkF a.a && dkF a.c) = (dkF b.a && dkF b.c)
  rw [Bool.eq_iff_iff]
  constructor
  · intro e; exact dk_col vb va ((alB_comm a b).trans hx) hd.symm e
  · intro e; exact dk_col va vb hx hd e
end Go.Proofs.YtmcokdiopcpifaaDoor
namespace Go.Proofs.YtmcokdiopcpifaaDoor
open Pol
def e1v : J2 := ⟨⟨1, 0, 1⟩, ⟨0, 0, 1⟩⟩
theorem f1_vldF : vld (⟨1, 0, 1⟩ : Fr) = true := by decide
theorem f0_vldF : vld (⟨0, 0, 1⟩ : Fr) = true := by decide
theorem f1_rvF : rv (⟨1, 0, 1⟩ : Fr) = 1 := by show ((1 : Int) : Rat) / ((1 : Int) : Rat) = 1; grind
theorem f1_ivF : iv (⟨1, 0, 1⟩ : Fr) = 0 := by show ((0 : Int) : Rat) / ((1 : Int) : Rat) = 0; grind
theorem f0_rvF : rv (⟨0, 0, 1⟩ : Fr) = 0 := by show ((0 : Int) : Rat) / ((1 : Int) : Rat) = 0; grind
theorem f0_ivF : iv (⟨0, 0, 1⟩ : Fr) = 0 := by show ((0 : Int) : Rat) / ((1 : Int) : Rat) = 0; grind
theorem e1_in {a b : Fr} (ha : vld a = true) (hb : vld b = true) : fIn a ⟨1, 0, 1⟩ b ⟨0, 0, 1⟩ = (a, true) := by
  have h1 : fTimes a ⟨1, 0, 1⟩ = (a, true) := fTimes_ok.2 ⟨ha, f1_vldF, ha, by rw [f1_rvF, f1_ivF]; grind, by rw [f1_rvF, f1_ivF]; grind⟩
  have h2 : fTimes b ⟨0, 0, 1⟩ = (⟨0, 0, 1⟩, true) := fTimes_ok.2 ⟨hb, f0_vldF, f0_vldF, by rw [f0_rvF, f0_ivF]; grind, by rw [f0_rvF, f0_ivF]; grind⟩
  have h3 : fAdd a ⟨0, 0, 1⟩ = (a, true) := fAdd_ok.2 ⟨ha, f0_vldF, ha, by rw [f0_rvF]; grind, by rw [f0_ivF]; grind⟩
  unfold fIn
  rw [h1, h2]
  simp [h3]
theorem mAp_e1 {m : M4} (h : all4 vld m = true) : mAp m e1v = (⟨m.a, m.c⟩, true) := by
  obtain ⟨ha, hb, hc, hd⟩ := all4_iff.1 h
  have e0 : fIn (m.get 0) e1v.x (m.get 1) e1v.y = (m.a, true) := e1_in ha hb
  have e2 : fIn (m.get 2) e1v.x (m.get 3) e1v.y = (m.c, true) := e1_in hc hd
  unfold mAp
  rw [if_pos h, if_pos (by decide), e0, e2]
  rfl
theorem gMAl_vld {a b : M4} (h : gMAl a b = true) : all4 vld a = true ∧ all4 vld b = true := ⟨(gMAl_iff.1 h).1, (gMAl_iff.1 h).2.1⟩
end Go.Proofs.YtmcokdiopcpifaaDoor
namespace Go.Proofs.YtmcokdiopcpifaaDoor
open Go.RowKit Pol
structure RX (w : World) (R : Nat) (a0 : Option Addr) (len cap k M0 n0 M1 n1 : Nat) (L : List (Nat × List Value)) (W : World) : Prop where
  below : Below w.heap.size w W
  rd : Rd w.heap.size R a0 len cap k W
  l0 : M0 < W.heap.size
  l1 : M1 < W.heap.size
  r0 : M0 ≠ R
  r1 : M1 ≠ R
  m0 : Room W M0 n0
  m1 : Room W M1 n1
  box : ∀ e ∈ L, (e.1 < W.heap.size ∧ e.1 ≠ R) ∧ W.rangeAt e.1 0 e.2
section
variable {w W W' : World} {R : Nat} {a0 : Option Addr} {len cap k M0 n0 M1 n1 : Nat} {L : List (Nat × List Value)}
theorem RX.next (K : RX w R a0 len cap k M0 n0 M1 n1 L W) (hb : Below W.heap.size W W') : RX w R a0 len cap k M0 n0 M1 n1 L W' :=
  ⟨K.below.trans (hb.mono K.below.size), K.rd.next hb, Nat.lt_of_lt_of_le K.l0 hb.size, Nat.lt_of_lt_of_le K.l1 hb.size, K.r0, K.r1, K.m0.below hb K.l0, K.m1.below hb K.l1, fun e he => ⟨⟨Nat.lt_of_lt_of_le (K.box e he).1.1 hb.size, (K.box e he).1.2⟩, rangeAt_below (K.box e he).2 hb (K.box e he).1.1⟩⟩
theorem RX.alloc (K : RX w R a0 len cap k M0 n0 M1 n1 L W) (z : Obj) : RX w R a0 len cap k M0 n0 M1 n1 L (W.alloc z) := K.next ((Below.refl _ _).alloc (Nat.le_refl _) z)
theorem RX.drew (K : RX w R a0 len cap k M0 n0 M1 n1 L W) : RX w R a0 len cap k M0 n0 M1 n1 L W.drew := K.next (Below.refl _ _).drew
theorem Room.ownX {N n : Nat} (h : Room W N n) (hO : Own R W W') (hl : N < W.heap.size) (hn : N ≠ R) : Room W' N n := fun j hj =>
  ⟨by rw [hO.cell hl hn]; exact (h j hj).1, by rw [hO.frozen hl hn]; exact (h j hj).2⟩
theorem RX.own {k' : Nat} (K : RX w R a0 len cap k M0 n0 M1 n1 L W) (hO : Own R W W') (hr : Rd w.heap.size R a0 len cap k' W') : RX w R a0 len cap k' M0 n0 M1 n1 L W' :=
  ⟨hO.mine K.below K.rd.base, hr, Nat.lt_of_lt_of_le K.l0 hO.size, Nat.lt_of_lt_of_le K.l1 hO.size, K.r0, K.r1, K.m0.ownX hO K.l0 K.r0, K.m1.ownX hO K.l1 K.r1, fun e he => ⟨⟨Nat.lt_of_lt_of_le (K.box e he).1.1 hO.size, (K.box e he).1.2⟩, fun j v hv => (hO.cell (K.box e he).1.1 (K.box e he).1.2 _).trans ((K.box e he).2 j v hv)⟩⟩
theorem Rd.setsX {N b : Nat} (hb : b ≠ R) : ∀ (vs : List Value) (o : Nat) {W : World}, Rd N R a0 len cap k W → N ≤ b → Rd N R a0 len cap k (W.setCells b o vs)
  | [], _, _, h, _ => h
  | v :: vs, o, W, h, hN => by
    refine Rd.setsX hb vs (o + 1) (W := W.setCell ⟨b, o, none⟩ v) ?_ hN
    have hf : ∀ B q, B ≠ b → (W.setCell ⟨b, o, none⟩ v).cell? ⟨B, q, none⟩ = W.cell? ⟨B, q, none⟩ := fun B q hB => World.cell?_setCell_far _ _ _ _ (by show b ≠ B; omega)
    exact ⟨by rw [World.size_setCell]; exact h.lt, h.base, (hf _ _ (by omega)).trans h.slice, by obtain ⟨p, h1, h2⟩ := h.place; exact ⟨p, h1, (hf _ _ (by omega)).trans h2⟩, by rw [World.frozen?_setCell]; exact h.free, h.short, h.code.keep fun B q hB => hf B q (by omega)⟩
theorem RX.store (K : RX w R a0 len cap k M0 n0 M1 n1 L W) {D : Nat} (h2 : ∀ e ∈ L, e.1 ≠ D) (h3 : D ≠ R) (h4 : w.heap.size ≤ D) (vs : List Value) : RX w R a0 len cap k M0 n0 M1 n1 L (W.setCells D 0 vs) :=
  have hs : (W.setCells D 0 vs).heap.size = W.heap.size := setCells_size2 _ _ _ _
  ⟨setCells_below _ _ _ K.below h4, Rd.setsX h3 vs 0 K.rd h4, by rw [hs]; exact K.l0, by rw [hs]; exact K.l1, K.r0, K.r1, K.m0.setsF _ _ _, K.m1.setsF _ _ _, fun e he => ⟨by rw [hs]; exact (K.box e he).1, World.rangeAt_setCells_apart (K.box e he).2 D 0 vs (Or.inl (h2 e he))⟩⟩
theorem RX.add (K : RX w R a0 len cap k M0 n0 M1 n1 L W) {D : Nat} {l : List Value} (hD : D < W.heap.size) (hR : D ≠ R) (hr : W.rangeAt D 0 l) : RX w R a0 len cap k M0 n0 M1 n1 ((D, l) :: L) W :=
  ⟨K.below, K.rd, K.l0, K.l1, K.r0, K.r1, K.m0, K.m1, fun e he => by
    rcases List.mem_cons.1 he with rfl | he
    · exact ⟨⟨hD, hR⟩, hr⟩
    · exact K.box e he⟩
theorem BoxAt.drX {X n : Nat} {g : Nat → Fr} (h : BoxAt W X g n) : BoxAt W.drew X g n := h
theorem RX.mono {k' : Nat} (K : RX w R a0 len cap k M0 n0 M1 n1 L W) (h : k ≤ k') : RX w R a0 len cap k' M0 n0 M1 n1 L W :=
  ⟨K.below, K.rd.mono h, K.l0, K.l1, K.r0, K.r1, K.m0, K.m1, K.box⟩
end
end Go.Proofs.YtmcokdiopcpifaaDoor
