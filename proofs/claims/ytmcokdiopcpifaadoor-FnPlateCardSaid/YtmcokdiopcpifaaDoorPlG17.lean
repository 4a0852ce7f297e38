/- Plain facts: real fractions and their values. -/
import Derived.Test.YtmcokdiopcpifaaDoorPlPlain
import Derived.Test.YtmcokdiopcpifaaDoorPlG4
import Derived.Test.YtmcokdiopcpifaaDoorPlY
import Derived.Test.YtmcokdiopcpifaaDoorPlNC
import Derived.Test.YtmcokdiopcpifaaDoorPlV
import Derived.Deep.DeepCutAuto
import Derived.Deep.RegionHeld3
import Derived.BigQuiet
set_option maxRecDepth 100000
namespace Go.Proofs.YtmcokdiopcpifaaDoor
open Pol
theorem vld_f0 : vld f0 = true := by decide
theorem rv_f0 : rv f0 = 0 := (rv_zero vld_f0).2 rfl
theorem iv_f0 : iv f0 = 0 := (iv_zero vld_f0).2 rfl
end Go.Proofs.YtmcokdiopcpifaaDoor
namespace Go.Proofs.YtmcokdiopcpifaaDoor
open Pol
def fConj (a : Fr) : Fr := ⟨a.re, -a.im, a.den⟩
theorem mirror_y {a : Fr} (h : vld a = true) : fMirror a = (fConj a, true) := by unfold fMirror; rw [if_pos h]; rfl
theorem conj_rv (a : Fr) : rv (fConj a) = rv a := rfl
theorem conj_iv (a : Fr) : iv (fConj a) = - iv a := by
  unfold iv fConj
  show ((-a.im : Int) : Rat) / (a.den : Rat) = _
  rw [Rat.intCast_neg, Rat.div_def, Rat.div_def, Rat.neg_mul]
end Go.Proofs.YtmcokdiopcpifaaDoor
namespace Go.Proofs.YtmcokdiopcpifaaDoor
open Pol
def mC (m : M4) : M4 := ⟨fConj m.a, fConj m.c, fConj m.b, fConj m.d⟩
theorem gAdj_y {m : M4} (h : all4 vld m = true) : gAdj m = (mC m, true) := by
  obtain ⟨h1, h2, h3, h4⟩ := all4_iff.1 h
  unfold gAdj
  rw [if_pos h, mirror_y h1, mirror_y h2, mirror_y h3, mirror_y h4]; rfl
theorem gAdj_n {m : M4} (h : all4 vld m = false) : gAdj m = (m4z, false) := by unfold gAdj; rw [if_neg (by rw [h]; simp)]
theorem fIn_ok {a b c d x : Fr} (h : fIn a b c d = (x, true)) : vld x = true ∧ rv x = (rv a * rv b - iv a * iv b) + (rv c * rv d - iv c * iv d) ∧ iv x = (rv a * iv b + iv a * rv b) + (rv c * iv d + iv c * rv d) := by
  unfold fIn at h
  split at h
  · next h2 =>
    simp only [Bool.and_eq_true] at h2
    obtain ⟨-, -, -, r1, i1⟩ := fTimes_ok.1 (pair_t h2.1)
    obtain ⟨-, -, -, r2, i2⟩ := fTimes_ok.1 (pair_t h2.2)
    obtain ⟨-, -, v, r, i⟩ := fAdd_ok.1 h
    exact ⟨v, by rw [r, r1, r2], by rw [i, i1, i2]⟩
  · cases h
theorem g4_ok {a b c d : Fr} {e : Bool} {o : M4} (h : g4 a b c d e = (o, true)) : e = true ∧ o = ⟨a, b, c, d⟩ := by
  unfold g4 at h
  split at h
  · next he => exact ⟨he, (Prod.mk.inj h).1.symm⟩
  · cases h
theorem mTm_parts {m n o : M4} (h : mTm m n = (o, true)) : all4 vld m = true ∧ all4 vld n = true ∧ fIn m.a n.a m.b n.c = (o.a, true) ∧ fIn m.a n.b m.b n.d = (o.b, true) ∧ fIn m.c n.a m.d n.c = (o.c, true) ∧ fIn m.c n.b m.d n.d = (o.d, true) := by
  unfold mTm at h
  split at h
  · next h1 =>
    split at h
    · next h2 =>
      obtain ⟨he, rfl⟩ := g4_ok h
      simp only [Bool.and_eq_true] at he
      exact ⟨h1, h2, pair_t he.1.1.1, pair_t he.1.1.2, pair_t he.1.2, pair_t he.2⟩
    · cases h
  · cases h
theorem mTm_make {m n o : M4} (h1 : all4 vld m = true) (h2 : all4 vld n = true) (ha : fIn m.a n.a m.b n.c = (o.a, true)) (hb : fIn m.a n.b m.b n.d = (o.b, true)) (hc : fIn m.c n.a m.d n.c = (o.c, true)) (hd : fIn m.c n.b m.d n.d = (o.d, true)) : mTm m n = (o, true) := by
  unfold mTm g4
  rw [if_pos h1, if_pos h2, ha, hb, hc, hd]; rfl
theorem m4_ext {m n : M4} (h1 : m.a = n.a) (h2 : m.b = n.b) (h3 : m.c = n.c) (h4 : m.d = n.d) : m = n := by
  obtain ⟨a, b, c, d⟩ := m
  obtain ⟨a', b', c', d'⟩ := n
  simp only at h1 h2 h3 h4
  rw [h1, h2, h3, h4]
theorem gDet_ok {m : M4} {k : Fr} (h : gDet m = (k, true)) : all4 vld m = true ∧ vld k = true ∧ rv k = (rv m.a * rv m.d - iv m.a * iv m.d) - (rv m.b * rv m.c - iv m.b * iv m.c) ∧ iv k = (rv m.a * iv m.d + iv m.a * rv m.d) - (rv m.b * iv m.c + iv m.b * rv m.c) := by
  unfold gDet at h
  split at h
  · next h2 =>
    simp only [Bool.and_eq_true] at h2
    obtain ⟨va, vd, -, r1, i1⟩ := fTimes_ok.1 (pair_t h2.1)
    obtain ⟨vb, vc, -, r2, i2⟩ := fTimes_ok.1 (pair_t h2.2)
    obtain ⟨-, -, v, r, i⟩ := fLess_ok.1 h
    exact ⟨all4_iff.2 ⟨va, vb, vc, vd⟩, v, by rw [r, r1, r2], by rw [i, i1, i2]⟩
  · cases h
theorem v1 : vld Pol.f1 = true := by decide
theorem r1 : rv Pol.f1 = 1 := by show ((1 : Int) : Rat) / ((1 : Int) : Rat) = 1; grind
theorem i1 : iv Pol.f1 = 0 := by show ((0 : Int) : Rat) / ((1 : Int) : Rat) = 0; grind
theorem one_r {x : Fr} (h : vld x = true) : fTimes x Pol.f1 = (x, true) := fTimes_ok.2 ⟨h, v1, h, by rw [r1, i1]; grind, by rw [r1, i1]; grind⟩
theorem zero_r {x : Fr} (h : vld x = true) : fTimes x f0 = (f0, true) := fTimes_ok.2 ⟨h, vld_f0, vld_f0, by rw [rv_f0, iv_f0]; grind, by rw [rv_f0, iv_f0]; grind⟩
theorem add0_l {x : Fr} (h : vld x = true) : fAdd f0 x = (x, true) := fAdd_ok.2 ⟨vld_f0, h, h, by rw [rv_f0]; grind, by rw [iv_f0]; grind⟩
theorem add0_r {x : Fr} (h : vld x = true) : fAdd x f0 = (x, true) := fAdd_ok.2 ⟨h, vld_f0, h, by rw [rv_f0]; grind, by rw [iv_f0]; grind⟩
def mOne : M4 := ⟨Pol.f1, f0, f0, Pol.f1⟩
end Go.Proofs.YtmcokdiopcpifaaDoor
namespace Go.Proofs.YtmcokdiopcpifaaDoor
open Go.RowKit Pol
theorem rangeAt_nw {w : World} {L : List Value} {t : TypeId} {N : Nat} (h : w.heap.size = N) : (w.alloc (.cells L.toArray t)).rangeAt N 0 L := h ▸ rangeAt_new w L t
theorem cellsM {w : World} {N : Nat} {v0 v1 v2 v3 v4 v5 v6 v7 v8 v9 v10 v11 : Value} (h : w.rangeAt N 0 [v0, v1, v2, v3, v4, v5, v6, v7, v8, v9, v10, v11]) : w.cell? ⟨N, 0, none⟩ = some v0 ∧ w.cell? ⟨N, 1, none⟩ = some v1 ∧ w.cell? ⟨N, 2, none⟩ = some v2 ∧ w.cell? ⟨N, 3, none⟩ = some v3 ∧ w.cell? ⟨N, 4, none⟩ = some v4 ∧ w.cell? ⟨N, 5, none⟩ = some v5 ∧ w.cell? ⟨N, 6, none⟩ = some v6 ∧ w.cell? ⟨N, 7, none⟩ = some v7 ∧ w.cell? ⟨N, 8, none⟩ = some v8 ∧ w.cell? ⟨N, 9, none⟩ = some v9 ∧ w.cell? ⟨N, 10, none⟩ = some v10 ∧ w.cell? ⟨N, 11, none⟩ = some v11 :=
  ⟨by have := h 0 _ rfl; rwa [Nat.zero_add] at this, by have := h 1 _ rfl; rwa [Nat.zero_add] at this, by have := h 2 _ rfl; rwa [Nat.zero_add] at this, by have := h 3 _ rfl; rwa [Nat.zero_add] at this, by have := h 4 _ rfl; rwa [Nat.zero_add] at this, by have := h 5 _ rfl; rwa [Nat.zero_add] at this, by have := h 6 _ rfl; rwa [Nat.zero_add] at this, by have := h 7 _ rfl; rwa [Nat.zero_add] at this, by have := h 8 _ rfl; rwa [Nat.zero_add] at this, by have := h 9 _ rfl; rwa [Nat.zero_add] at this, by have := h 10 _ rfl; rwa [Nat.zero_add] at this, by have := h 11 _ rfl; rwa [Nat.zero_add] at this⟩
end Go.Proofs.YtmcokdiopcpifaaDoor
namespace Go.Proofs.YtmcokdiopcpifaaDoor
open Go.RowKit Pol
set_option maxRecDepth 100000 in
set_option maxHeartbeats 4000000 in
theorem l5One_any (a b : Fr) (w : World) : Calls Tryd.prog 108 #[.agg #[.int .i64 a.re, .int .i64 a.im, .int .i64 a.den], .agg #[.int .i64 b.re, .int .i64 b.im, .int .i64 b.den]] w fun e w' => e = .returned (.agg #[.int .i64 a.re, .int .i64 a.im, .int .i64 a.den, .int .i64 0, .int .i64 0, .int .i64 1, .int .i64 0, .int .i64 0, .int .i64 1, .int .i64 b.re, .int .i64 b.im, .int .i64 b.den]) ∧ Below w.heap.size w w' := by
  go_enter Tryd.func108, Tryd.ntmps108
  go_wp2
  refine bodyPost_ret (v := .agg #[.int .i64 a.re, .int .i64 a.im, .int .i64 a.den, .int .i64 0, .int .i64 0, .int .i64 1, .int .i64 0, .int .i64 0, .int .i64 1, .int .i64 b.re, .int .i64 b.im, .int .i64 b.den]) (by simp [results, Tryd.results108, go_sem]) rfl ⟨rfl, ?_⟩
  (repeat' first | exact Below.refl _ _ | apply bl_alloc | apply bl_drewN | apply bl_drew | refine bl_trans ?_ (by assumption) | refine bl_set ?_ (by first | omega | (simp <;> omega)) _)
end Go.Proofs.YtmcokdiopcpifaaDoor
namespace Go.Proofs.YtmcokdiopcpifaaDoor
open Go.RowKit Pol
theorem setCells_size2 (g : Nat) : ∀ (vs : List Value) (o : Nat) (w : World), (w.setCells g o vs).heap.size = w.heap.size
  | [], _, _ => rfl
  | _ :: vs, o, _ => (setCells_size2 g vs (o + 1) _).trans (World.size_setCell _ _ _)
theorem Room.setsF {X n : Nat} (b : Nat) : ∀ (vs : List Value) (o : Nat) {w : World}, Room w X n → Room (w.setCells b o vs) X n
  | [], _, _, h => h
  | v :: vs, o, _, h => Room.setsF b vs (o + 1) (h.set ⟨b, o, none⟩ v)
theorem Room.drewF {w : World} {N n : Nat} (h : Room w N n) : Room w.drew N n := h
theorem Room.ltF {w : World} {N n : Nat} (h : Room w N n) (hn : 0 < n) : N < w.heap.size := by
  obtain ⟨v, hv⟩ := Option.isSome_iff_exists.1 (h 0 (by omega)).1
  exact World.block_lt_of_cell? _ _ hv
structure BX (w : World) (R nz : Nat) (L : List (Nat × List Value)) (W : World) : Prop where
  below : Below w.heap.size w W
  hR : R < W.heap.size ∨ nz = 0
  room : Room W R nz
  box : ∀ e ∈ L, e.1 < W.heap.size ∧ W.rangeAt e.1 0 e.2
theorem BX.next {w W W' : World} {R nz : Nat} {L : List (Nat × List Value)} (K : BX w R nz L W) (hb : Below W.heap.size W W') : BX w R nz L W' :=
  ⟨K.below.trans (hb.mono K.below.size), K.hR.imp (fun h => Nat.lt_of_lt_of_le h hb.size) id, by
    rcases K.hR with h | h
    · exact K.room.below hb h
    · subst h; exact fun j hj => absurd hj (Nat.not_lt_zero _), fun e he => ⟨Nat.lt_of_lt_of_le (K.box e he).1 hb.size, rangeAt_below (K.box e he).2 hb (K.box e he).1⟩⟩
theorem BX.alloc {w W : World} {R nz : Nat} {L : List (Nat × List Value)} (K : BX w R nz L W) (z : Obj) : BX w R nz L (W.alloc z) := K.next ((Below.refl _ _).alloc (Nat.le_refl _) z)
theorem BX.drew {w W : World} {R nz : Nat} {L : List (Nat × List Value)} (K : BX w R nz L W) : BX w R nz L W.drew := K.next (Below.refl _ _).drew
theorem BX.store {w W : World} {R nz : Nat} {L : List (Nat × List Value)} (K : BX w R nz L W) {D : Nat} (h2 : ∀ e ∈ L, e.1 ≠ D) (h4 : w.heap.size ≤ D) (vs : List Value) : BX w R nz L (W.setCells D 0 vs) :=
  have hs : (W.setCells D 0 vs).heap.size = W.heap.size := setCells_size2 _ _ _ _
  ⟨setCells_below _ _ _ K.below h4, by rw [hs]; exact K.hR, K.room.setsF _ _ _, fun e he => ⟨by rw [hs]; exact (K.box e he).1, World.rangeAt_setCells_apart (K.box e he).2 D 0 vs (Or.inl (h2 e he))⟩⟩
theorem BX.add {w W : World} {R nz : Nat} {L : List (Nat × List Value)} (K : BX w R nz L W) {D : Nat} {l : List Value} (hD : D < W.heap.size) (hr : W.rangeAt D 0 l) : BX w R nz ((D, l) :: L) W :=
  ⟨K.below, K.hR, K.room, fun e he => by
    rcases List.mem_cons.1 he with rfl | he
    · exact ⟨hD, hr⟩
    · exact K.box e he⟩
theorem BX.nil {w W : World} {R nz : Nat} (h : Below w.heap.size w W) (hR : R < W.heap.size ∨ nz = 0) (r : Room W R nz) : BX w R nz [] W := ⟨h, hR, r, fun e he => by cases he⟩
theorem cellsF {w : World} {N : Nat} {v0 v1 v2 : Value} (h : w.rangeAt N 0 [v0, v1, v2]) : w.cell? ⟨N, 0, none⟩ = some v0 ∧ w.cell? ⟨N, 1, none⟩ = some v1 ∧ w.cell? ⟨N, 2, none⟩ = some v2 :=
  ⟨by have := h 0 _ rfl; rwa [Nat.zero_add] at this, by have := h 1 _ rfl; rwa [Nat.zero_add] at this, by have := h 2 _ rfl; rwa [Nat.zero_add] at this⟩
end Go.Proofs.YtmcokdiopcpifaaDoor
