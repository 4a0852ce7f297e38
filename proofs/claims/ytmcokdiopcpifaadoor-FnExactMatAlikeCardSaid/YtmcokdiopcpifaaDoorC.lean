/- Contracts: lowest terms. -/
import Derived.Test.YtmcokdiopcpifaaDoorB
import Derived.Deep.RegionHeld3
set_option maxRecDepth 100000
namespace Go.Proofs.YtmcokdiopcpifaaDoor
open Go.RowKit Pol

@[simp] theorem nlt2 (n : Nat) : n < n + 1 + 1 := by omega
@[simp] theorem nlt3 (n : Nat) : n < n + 1 + 1 + 1 := by omega
@[simp] theorem nlt4 (n : Nat) : n < n + 1 + 1 + 1 + 1 := by omega
@[simp] theorem nlt5 (n : Nat) : n < n + 1 + 1 + 1 + 1 + 1 := by omega
@[simp] theorem nlt6 (n : Nat) : n < n + 1 + 1 + 1 + 1 + 1 + 1 := by omega
@[simp] theorem nle2 (n : Nat) : n ≤ n + 1 + 1 := by omega
@[simp] theorem nle3 (n : Nat) : n ≤ n + 1 + 1 + 1 := by omega
@[simp] theorem nle4 (n : Nat) : n ≤ n + 1 + 1 + 1 + 1 := by omega
@[simp] theorem nle5 (n : Nat) : n ≤ n + 1 + 1 + 1 + 1 + 1 := by omega
@[simp] theorem nle6 (n : Nat) : n ≤ n + 1 + 1 + 1 + 1 + 1 + 1 := by omega
theorem bl_alloc {a w : World} {o : Obj} (h : Below a.heap.size a w) : Below a.heap.size a (w.alloc o) := h.alloc h.size _
theorem bl_drew {a w : World} (h : Below a.heap.size a w) : Below a.heap.size a w.drew := h.drew
theorem bl_drewN {a w : World} {n : Nat} (h : Below a.heap.size a w) : Below a.heap.size a (w.drewN n) := below_drewN h n
theorem bl_trans {a w w' : World} (h : Below a.heap.size a w) (k : Below w.heap.size w w') : Below a.heap.size a w' := h.trans (k.mono h.size)
theorem bl_set {a w : World} {p : Addr} (h : Below a.heap.size a w) (hp : a.heap.size ≤ p.block) (u : Value) : Below a.heap.size a (w.setCell p u) := h.setCell hp u
theorem bcell {W w1 : World} (hb : Below W.heap.size W w1) : (∀ b o, b < W.heap.size → w1.cell? ⟨b, o, none⟩ = W.cell? ⟨b, o, none⟩) ∧ (∀ b o, b < W.heap.size → w1.frozen? ⟨b, o, none⟩ = W.frozen? ⟨b, o, none⟩) :=
  ⟨fun b o h => hb.cell (p := ⟨b, o, none⟩) h, fun b o h => hb.frozen (p := ⟨b, o, none⟩) h⟩

/-- The same, up to a block number that is written out. -/
theorem bcellk {W w1 : World} {B : Nat} (hb : Below W.heap.size W w1) (h : B ≤ W.heap.size) : (∀ b o, b < B → w1.cell? ⟨b, o, none⟩ = W.cell? ⟨b, o, none⟩) ∧ (∀ b o, b < B → w1.frozen? ⟨b, o, none⟩ = W.frozen? ⟨b, o, none⟩) ∧ B ≤ w1.heap.size :=
  ⟨fun b o k => hb.cell (p := ⟨b, o, none⟩) (Nat.lt_of_lt_of_le k h), fun b o k => hb.frozen (p := ⟨b, o, none⟩) (Nat.lt_of_lt_of_le k h), Nat.le_trans h hb.size⟩

/-- What a call hands back that makes a fraction and says whether it is one; nothing that was there has turned. -/
def FrOut (g : Fr × Bool) (w : World) (e : Ending) (w' : World) : Prop :=
  ∃ f ok, Hid (g = (f, ok)) ∧ e = .returned (.tuple #[.agg #[.int .i64 f.re, .int .i64 f.im, .int .i64 f.den], .bool ok]) ∧ Below w.heap.size w w'
theorem FrOut.mk {g : Fr × Bool} {x y z : Int} {ok : Bool} {w w' : World} {e : Ending} (h : Hid (g = (⟨x, y, z⟩, ok))) (he : e = .returned (.tuple #[.agg #[.int .i64 x, .int .i64 y, .int .i64 z], .bool ok])) (hb : Below w.heap.size w w') : FrOut g w e w' := ⟨⟨x, y, z⟩, ok, h, he, hb⟩

theorem FrOut.yes {g : Fr × Bool} {f : Fr} {w w' : World} (h2 : g.2 = true) (h1 : f = g.1) (hb : Below w.heap.size w w') : FrOut g w (.returned (.tuple #[.agg #[.int .i64 f.re, .int .i64 f.im, .int .i64 f.den], .bool true])) w' :=
  ⟨f, true, by show g = (f, true); rw [h1, ← h2], rfl, hb⟩
theorem FrOut.no {g : Fr × Bool} {w w' : World} (h2 : g = (fz, false)) (hb : Below w.heap.size w w') : FrOut g w (.returned (.tuple #[.agg #[.int .i64 0, .int .i64 0, .int .i64 0], .bool false])) w' :=
  ⟨fz, false, h2, rfl, hb⟩
theorem FrOut.fn {g : Fr × Bool} {w w' : World} {e : Ending} (h : FrOut g w e w') : e = .returned (.tuple #[.agg #[.int .i64 g.1.re, .int .i64 g.1.im, .int .i64 g.1.den], .bool g.2]) ∧ Below w.heap.size w w' := by
  obtain ⟨f, ok, hg, he, hb⟩ := h
  have hg' := hg.out
  subst hg'
  exact ⟨he, hb⟩

set_option maxHeartbeats 1000000 in
theorem lowest_any (re im den : Int) (r0 : -9000000000000000000 ≤ re) (r1 : re ≤ 9000000000000000000) (i0 : -9000000000000000000 ≤ im) (i1 : im ≤ 9000000000000000000) (d0 : 1 ≤ den) (d1 : den ≤ 9000000000000000000) (w : World) :
    Calls Tryd.prog 87 #[.int .i64 re, .int .i64 im, .int .i64 den] w (FrOut (low re im den) w) := by
  have n1 := ab_nonneg re
  have n2 := ab_nonneg im
  have l1 := ab_le r0 r1
  have l2 := ab_le i0 i1
  have q1 := gc_nonneg re im
  have q2 := gc_le re im _ r0 r1 i0 i1
  have gp := g3_pos re im den d0
  have gl := gc_le (gc re im) den 9000000000000000000 (by omega) q2 (by omega) d1
  have gl' : g3 re im den ≤ 9000000000000000000 := gl
  clear gl
  have HG : Hid (gc (ab re) (ab im) = gc re im) := gc_ab re im
  have HG2 : Hid (gc (gc re im) den = g3 re im den) := rfl
  have zp : Hid (den.tdiv (g3 re im den) = den / g3 re im den) := Int.tdiv_eq_ediv_of_nonneg (by omega)
  have zq0 : 0 ≤ den / g3 re im den := Int.ediv_nonneg (by omega) (by omega)
  have zq1 : den / g3 re im den ≤ 9000000000000000000 := Int.le_trans (Int.ediv_le_self _ (by omega)) d1
  cases h1 : wi (re.tdiv (g3 re im den)) (-2000000000) 2000000000
  · have hl : low re im den = (⟨0, 0, 0⟩, false) := by
      unfold low lowB cut; rw [show inP (re.tdiv (g3 re im den)) = false from h1]; rfl
    have HL := Lib.hid hl; clear hl
    generalize hg : g3 re im den = g at *
    have Hg := Lib.hid hg; clear hg
    go_enter Tryd.func87, Tryd.ntmps87
    go_wp2_with (first
      | (go_at_call 124; refine (size_any _ (by omega) (by omega) _).mono ?_; rintro e w' ⟨rfl, rfl⟩)
      | (go_at_call 123; (with_reducible refine (divisor_any (ab re) (ab im) n1 n2 (by omega) (by omega) _).mono ?_); rintro e w' ⟨rfl, n, rfl⟩; rw [HG.out])
      | (go_at_call 123; (with_reducible refine (divisor_any (gc re im) den q1 (by omega) q2 d1 _).mono ?_); rintro e w' ⟨rfl, n, rfl⟩; rw [HG2.out]))
    go_region
    go_wp2_with (go_at_call 63; (first | (with_reducible refine (within_b h1 _).mono ?_)); rintro e w' ⟨rfl, rfl⟩)
    refine bodyPost_ret (v := .tuple #[.agg #[.int .i64 0, .int .i64 0, .int .i64 0], .bool false]) (by simp [results, Tryd.results87, go_sem, *]) rfl (FrOut.mk HL rfl ?_)
    (repeat' first | exact Below.refl _ _ | apply bl_alloc | apply bl_drewN | apply bl_drew | refine bl_trans ?_ (by assumption) | refine bl_set ?_ (by first | omega | (simp <;> omega)) _)
  cases h2 : wi (im.tdiv (g3 re im den)) (-2000000000) 2000000000
  · have hl : low re im den = (⟨0, 0, 0⟩, false) := by
      unfold low lowB cut; rw [show inP (re.tdiv (g3 re im den)) = true from h1, show inP (im.tdiv (g3 re im den)) = false from h2]; rfl
    have HL := Lib.hid hl; clear hl
    generalize hg : g3 re im den = g at *
    have Hg := Lib.hid hg; clear hg
    go_enter Tryd.func87, Tryd.ntmps87
    go_wp2_with (first
      | (go_at_call 124; refine (size_any _ (by omega) (by omega) _).mono ?_; rintro e w' ⟨rfl, rfl⟩)
      | (go_at_call 123; (with_reducible refine (divisor_any (ab re) (ab im) n1 n2 (by omega) (by omega) _).mono ?_); rintro e w' ⟨rfl, n, rfl⟩; rw [HG.out])
      | (go_at_call 123; (with_reducible refine (divisor_any (gc re im) den q1 (by omega) q2 d1 _).mono ?_); rintro e w' ⟨rfl, n, rfl⟩; rw [HG2.out]))
    go_region
    go_wp2_with (go_at_call 63; (first | (with_reducible refine (within_b h1 _).mono ?_) | (with_reducible refine (within_b h2 _).mono ?_)); rintro e w' ⟨rfl, rfl⟩)
    refine bodyPost_ret (v := .tuple #[.agg #[.int .i64 0, .int .i64 0, .int .i64 0], .bool false]) (by simp [results, Tryd.results87, go_sem, *]) rfl (FrOut.mk HL rfl ?_)
    (repeat' first | exact Below.refl _ _ | apply bl_alloc | apply bl_drewN | apply bl_drew | refine bl_trans ?_ (by assumption) | refine bl_set ?_ (by first | omega | (simp <;> omega)) _)
  by_cases h3 : 2000000000 < den / g3 re im den
  · have hl : low re im den = (⟨0, 0, 0⟩, false) := by
      unfold low lowB cut; rw [show inP (re.tdiv (g3 re im den)) = true from h1, show inP (im.tdiv (g3 re im den)) = true from h2]
      simp only [zp.out]; rw [decide_eq_false (by omega)]; rfl
    have HL := Lib.hid hl; clear hl
    generalize hg : g3 re im den = g at *
    have Hg := Lib.hid hg; clear hg
    go_enter Tryd.func87, Tryd.ntmps87
    go_wp2_with (first
      | (go_at_call 124; refine (size_any _ (by omega) (by omega) _).mono ?_; rintro e w' ⟨rfl, rfl⟩)
      | (go_at_call 123; (with_reducible refine (divisor_any (ab re) (ab im) n1 n2 (by omega) (by omega) _).mono ?_); rintro e w' ⟨rfl, n, rfl⟩; rw [HG.out])
      | (go_at_call 123; (with_reducible refine (divisor_any (gc re im) den q1 (by omega) q2 d1 _).mono ?_); rintro e w' ⟨rfl, n, rfl⟩; rw [HG2.out]))
    go_region
    go_wp2_with (go_at_call 63; (first | (with_reducible refine (within_b h1 _).mono ?_) | (with_reducible refine (within_b h2 _).mono ?_)); rintro e w' ⟨rfl, rfl⟩)
    refine bodyPost_ret (v := .tuple #[.agg #[.int .i64 0, .int .i64 0, .int .i64 0], .bool false]) (by simp [results, Tryd.results87, go_sem, *]) rfl (FrOut.mk HL rfl ?_)
    (repeat' first | exact Below.refl _ _ | apply bl_alloc | apply bl_drewN | apply bl_drew | refine bl_trans ?_ (by assumption) | refine bl_set ?_ (by first | omega | (simp <;> omega)) _)
  · have hl : low re im den = (⟨re.tdiv (g3 re im den), im.tdiv (g3 re im den), den / g3 re im den⟩, true) := by
      unfold low lowB cut; rw [show inP (re.tdiv (g3 re im den)) = true from h1, show inP (im.tdiv (g3 re im den)) = true from h2]
      simp only [zp.out]; rw [decide_eq_true (by omega)]; rfl
    have HL := Lib.hid hl; clear hl
    generalize hg : g3 re im den = g at *
    have Hg := Lib.hid hg; clear hg
    go_enter Tryd.func87, Tryd.ntmps87
    go_wp2_with (first
      | (go_at_call 124; refine (size_any _ (by omega) (by omega) _).mono ?_; rintro e w' ⟨rfl, rfl⟩)
      | (go_at_call 123; (with_reducible refine (divisor_any (ab re) (ab im) n1 n2 (by omega) (by omega) _).mono ?_); rintro e w' ⟨rfl, n, rfl⟩; rw [HG.out])
      | (go_at_call 123; (with_reducible refine (divisor_any (gc re im) den q1 (by omega) q2 d1 _).mono ?_); rintro e w' ⟨rfl, n, rfl⟩; rw [HG2.out]))
    go_region
    go_wp2_with (go_at_call 63; (first | (with_reducible refine (within_b h1 _).mono ?_) | (with_reducible refine (within_b h2 _).mono ?_)); rintro e w' ⟨rfl, rfl⟩)
    refine bodyPost_ret (v := .tuple #[.agg #[.int .i64 (re.tdiv g), .int .i64 (im.tdiv g), .int .i64 (den / g)], .bool true]) (by simp [results, Tryd.results87, go_sem, *]) rfl (FrOut.mk HL rfl ?_)
    (repeat' first | exact Below.refl _ _ | apply bl_alloc | apply bl_drewN | apply bl_drew | refine bl_trans ?_ (by assumption) | refine bl_set ?_ (by first | omega | (simp <;> omega)) _)
end Go.Proofs.YtmcokdiopcpifaaDoor
