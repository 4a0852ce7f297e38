/- How the arguments of a law read: fractions, vectors, matrices, tables by value are their integers. -/
import Derived.Test.YtmcokdiopcpifaaDoorUnPlain
import Derived.Test.YtmcokdiopcpifaaDoorRows
import Derived.WalkKit
import Derived.ProofKit
import Derived.OpenShut
import Derived.Test.YtmcokdiopcpifaaDoorChecked
import Derived.WalkSpells
import Derived.WalkLawsBesides
import Derived.Lib.Hide
import Derived.RegionTactic
import Derived.Deep.QuietTactic
import Derived.BigQuiet
import Derived.Outline
import Derived.Deep.RegionHeld3
set_option maxRecDepth 100000
namespace Go.Proofs.YtmcokdiopcpifaaDoor
open Go.ChangeShapes Go.WideShapes Go.ChangeAt Go.RowKit Pol
theorem Tryd.own : ownKnob Tryd.prog.godebug = none := by kernel_rfl
theorem Tryd.laidOut : laidOutB Tryd.prog = true := by kernel_rfl
end Go.Proofs.YtmcokdiopcpifaaDoor
namespace Go.Proofs.YtmcokdiopcpifaaDoor
open Go.RowKit Pol
theorem ret_int {k : IntKind} {a b : Int} (h : a = b) : Ending.returned (.int k a) = .returned (.int k b) := by rw [h]
/-- Between two bounds. -/
def wi (n lo hi : Int) : Bool := decide (lo ≤ n) && decide (n ≤ hi)
theorem within_any (n lo hi : Int) (w : World) :
    Calls Tryd.prog 63 #[.int .i64 n, .int .i64 lo, .int .i64 hi] w fun e w' => e = .returned (.bool (wi n lo hi)) ∧ w = w' := by
  unfold wi
  go_enter Tryd.func63, Tryd.ntmps63
  go_wp2
  all_goals go_ret
  all_goals (simp [*]; try omega)
def ab (n : Int) : Int := n.natAbs
theorem size_any (n : Int) (h : -9000000000000000000 ≤ n) (h' : n ≤ 9000000000000000000) (w : World) :
    Calls Tryd.prog 124 #[.int .i64 n] w fun e w' => e = .returned (.int .i64 (ab n)) ∧ w = w' := by
  unfold ab
  go_enter Tryd.func124, Tryd.ntmps124
  go_wp2
  all_goals go_ret
  all_goals (refine ⟨ret_int ?_, rfl⟩; omega)
theorem divisor_any (a b : Int) (ha : 0 ≤ a) (hb : 0 ≤ b) (ha' : a ≤ 9000000000000000000) (hb' : b ≤ 9000000000000000000) (w : World) :
    Calls Tryd.prog 123 #[.int .i64 a, .int .i64 b] w fun e w' => e = .returned (.int .i64 (gc a b)) ∧ ∃ n, w' = w.drewN n := by
  go_enter Tryd.func123, Tryd.ntmps123
  go_wp2
  go_loopw [0, 1] (fun x y wr => ∃ c d : Int, x = .int .i64 c ∧ y = .int .i64 d ∧ 0 ≤ c ∧ 0 ≤ d ∧ c ≤ 9000000000000000000 ∧ d ≤ 9000000000000000000 ∧ Hid (gc c d = gc a b) ∧ Hid (∃ n, wr = w.drewN n))
    (fun _ y _ => (intOf y).toNat)
  case atStart => exact ⟨a, b, rfl, rfl, ha, hb, ha', hb', rfl, 0, rfl⟩
  case round =>
    obtain ⟨c, d, rfl, rfl, hc, hd, hc', hd', HG, HW⟩ := hrel
    by_cases h0 : d = 0
    · subst h0
      go_wp2
      go_ret
      obtain ⟨n, hn⟩ := HW.out
      exact ⟨ret_int (by have := HG.out; rw [gc_zero] at this; omega), n, hn⟩
    · have hne : (d != 0) = true := by simp [h0]
      go_wp2
      go_quiet (fail)
      go_wp2
      have hm := Int.emod_lt_of_pos c (show 0 < d by omega)
      have hm0 := Int.emod_nonneg c h0
      have HG2 : gc d (c % d) = gc a b := by
        have := gc_tmod c d
        rw [Int.tmod_eq_emod_of_nonneg hc] at this
        rw [this]; exact HG.out
      obtain ⟨n, hn⟩ := HW.out
      go_roundw
      case rel => exact ⟨d, c % d, rfl, rfl, hd, hm0, hd', by omega, HG2, n + nq, by rw [hn, World.drewN_drewN]⟩
      case measure => simp [intOf]; omega
theorem within_q {n lo hi : Int} {b : Bool} (h : wi n lo hi = b) (w : World) (k : Nat) :
    Calls Tryd.prog 63 #[.int .i64 n, .int .i64 lo, .int .i64 hi] (w.drewN k) fun e w' => e = .returned (.bool b) ∧ ∃ m, w' = w.drewN m :=
  (within_any n lo hi (w.drewN k)).mono fun _ _ g => ⟨by rw [← h]; exact g.1, k, g.2.symm⟩
theorem size_q (n : Int) (h : -9000000000000000000 ≤ n) (h' : n ≤ 9000000000000000000) (w : World) (k : Nat) :
    Calls Tryd.prog 124 #[.int .i64 n] (w.drewN k) fun e w' => e = .returned (.int .i64 (ab n)) ∧ ∃ m, w' = w.drewN m :=
  (size_any n h h' (w.drewN k)).mono fun _ _ h => ⟨h.1, k, h.2.symm⟩
theorem divisor_q (a b c : Int) (h : gc a b = c) (ha : 0 ≤ a) (hb : 0 ≤ b) (ha' : a ≤ 9000000000000000000) (hb' : b ≤ 9000000000000000000) (w : World) (k : Nat) :
    Calls Tryd.prog 123 #[.int .i64 a, .int .i64 b] (w.drewN k) fun e w' => e = .returned (.int .i64 c) ∧ ∃ m, w' = w.drewN m :=
  (divisor_any a b ha hb ha' hb' (w.drewN k)).mono fun _ _ ⟨g, m, hm⟩ => ⟨by rw [← h]; exact g, k + m, by rw [hm, World.drewN_drewN]⟩
theorem wi_true {n lo hi : Int} (h : wi n lo hi = true) : lo ≤ n ∧ n ≤ hi := by unfold wi at h; simpa using h
theorem ab_nonneg (n : Int) : 0 ≤ ab n := by unfold ab; omega
theorem ab_le {n m : Int} (h : -m ≤ n) (h' : n ≤ m) : ab n ≤ m := by unfold ab; omega
theorem gc_ab (a b : Int) : gc (ab a) (ab b) = gc a b := by unfold ab; rw [gc_abs_left, gc_abs_right]
theorem gc_le (a b m : Int) (h : -m ≤ a) (h1 : a ≤ m) (h' : -m ≤ b) (h2 : b ≤ m) : gc a b ≤ m := by
  unfold gc
  by_cases ha : a = 0
  · subst ha; rw [Int.gcd_zero_left]; omega
  · have := Int.gcd_le_natAbs_left b ha; omega
theorem within_b {n lo hi : Int} {b : Bool} (h : wi n lo hi = b) (w : World) :
    Calls Tryd.prog 63 #[.int .i64 n, .int .i64 lo, .int .i64 hi] w fun e w' => e = .returned (.bool b) ∧ w = w' :=
  (within_any n lo hi w).mono fun _ _ g => ⟨by rw [← h]; exact g.1, g.2⟩
end Go.Proofs.YtmcokdiopcpifaaDoor
namespace Go.Proofs.YtmcokdiopcpifaaDoor
open Go.RowKit Pol
theorem vld_wi (x y z : Int) : vld ⟨x, y, z⟩ = (wi x (-2000000000) 2000000000 && wi y (-2000000000) 2000000000 && wi z 1 2000000000 && (g3 x y z == 1)) := by
  unfold vld wi inP; rfl
theorem below_box (w : World) (o : Obj) (n : Nat) : Below w.heap.size w ((w.alloc o).drewN n) := below_drewN ((Below.refl _ _).alloc (Nat.le_refl _) _) n
theorem ret_bool {a b : Bool} (h : a = b) : Ending.returned (.bool a) = .returned (.bool b) := by rw [h]
set_option maxHeartbeats 1000000 in
theorem valid_any (x y z : Int) (w : World) :
    Calls Tryd.prog 86 #[.agg #[.int .i64 x, .int .i64 y, .int .i64 z]] w fun e w' => e = .returned (.bool (vld ⟨x, y, z⟩)) ∧ Below w.heap.size w w' := by
  rw [vld_wi]
  cases h1 : wi x (-2000000000) 2000000000
  · go_enter Tryd.func86, Tryd.ntmps86
    go_wp2
    go_quiet ((go_at_call 63; with_reducible exact within_q h1 _ _))
    go_wp2
    go_ret
    exact ⟨rfl, below_box _ _ _⟩
  cases h2 : wi y (-2000000000) 2000000000
  · go_enter Tryd.func86, Tryd.ntmps86
    go_wp2
    go_quiet ((go_at_call 63; first | with_reducible exact within_q h1 _ _ | with_reducible exact within_q h2 _ _))
    go_wp2
    go_ret
    exact ⟨rfl, below_box _ _ _⟩
  cases h3 : wi z 1 2000000000
  · go_enter Tryd.func86, Tryd.ntmps86
    go_wp2
    go_quiet ((go_at_call 63; first | with_reducible exact within_q h1 _ _ | with_reducible exact within_q h2 _ _ | with_reducible exact within_q h3 _ _))
    go_wp2
    go_ret
    exact ⟨rfl, below_box _ _ _⟩
  obtain ⟨a1, a2⟩ := wi_true h1
  obtain ⟨b1, b2⟩ := wi_true h2
  obtain ⟨c1, c2⟩ := wi_true h3
  have n1 := ab_nonneg x
  have n2 := ab_nonneg y
  have l1 := ab_le a1 a2
  have l2 := ab_le b1 b2
  have q1 := gc_nonneg x y
  have q2 := gc_le x y _ a1 a2 b1 b2
  have G := gc_ab x y
  have HG : Hid (gc (ab x) (ab y) = gc x y) := G
  clear G
  go_enter Tryd.func86, Tryd.ntmps86
  go_wp2
  go_quiet (first
    | (go_at_call 63; first | with_reducible exact within_q h1 _ _ | with_reducible exact within_q h2 _ _ | with_reducible exact within_q h3 _ _)
    | (go_at_call 124; exact size_q _ (by omega) (by omega) _ _)
    | (go_at_call 123; first | with_reducible exact divisor_q _ _ _ HG.out n1 n2 (by omega) (by omega) _ _ | with_reducible exact divisor_q _ _ _ rfl q1 (by omega) (by omega) (by omega) _ _))
  go_wp2
  go_ret
  exact ⟨rfl, below_box _ _ _⟩
end Go.Proofs.YtmcokdiopcpifaaDoor
namespace Go.Proofs.YtmcokdiopcpifaaDoor
open Go.RowKit Pol
@[simp] theorem nlt2 (n : Nat) : n < n + 1 + 1 := by omega
@[simp] theorem nlt3 (n : Nat) : n < n + 1 + 1 + 1 := by omega
@[simp] theorem nlt4 (n : Nat) : n < n + 1 + 1 + 1 + 1 := by omega
@[simp] theorem nlt5 (n : Nat) : n < n + 1 + 1 + 1 + 1 + 1 := by omega
@[simp] theorem nlt6 (n : Nat) : n < n + 1 + 1 + 1 + 1 + 1 + 1 := by omega
@[simp] theorem nle2 (n : Nat) : n ≤ n + 1 + 1 := by omega
@[simp] theorem nle3 (n : Nat) : n ≤ n + 1 + 1 + 1 := by omega
@[simp] theorem nle4 (n : Nat) : n ≤ n + 1 + 1 + 1 + 1 := by omega
@[simp] theorem nle5 (n : Nat) : n ≤ n + 1 + 1 + 1 + 1 + 1 := by omega
@[simp] theorem nle6 (n : Nat) : n ≤ n + 1 + 1 + 1 + 1 + 1 + 1 := by omega
theorem bl_alloc {a w : World} {o : Obj} (h : Below a.heap.size a w) : Below a.heap.size a (w.alloc o) := h.alloc h.size _
theorem bl_drew {a w : World} (h : Below a.heap.size a w) : Below a.heap.size a w.drew := h.drew
theorem bl_drewN {a w : World} {n : Nat} (h : Below a.heap.size a w) : Below a.heap.size a (w.drewN n) := below_drewN h n
theorem bl_trans {a w w' : World} (h : Below a.heap.size a w) (k : Below w.heap.size w w') : Below a.heap.size a w' := h.trans (k.mono h.size)
theorem bl_set {a w : World} {p : Addr} (h : Below a.heap.size a w) (hp : a.heap.size ≤ p.block) (u : Value) : Below a.heap.size a (w.setCell p u) := h.setCell hp u
/-- The same, up to a block number that is written out. -/
theorem bcellk {W w1 : World} {B : Nat} (hb : Below W.heap.size W w1) (h : B ≤ W.heap.size) : (∀ b o, b < B → w1.cell? ⟨b, o, none⟩ = W.cell? ⟨b, o, none⟩) ∧ (∀ b o, b < B → w1.frozen? ⟨b, o, none⟩ = W.frozen? ⟨b, o, none⟩) ∧ B ≤ w1.heap.size :=
  ⟨fun b o k => hb.cell (p := ⟨b, o, none⟩) (Nat.lt_of_lt_of_le k h), fun b o k => hb.frozen (p := ⟨b, o, none⟩) (Nat.lt_of_lt_of_le k h), Nat.le_trans h hb.size⟩
/-- What a call hands back that makes a fraction and says whether it is one; nothing that was there has turned. -/
def FrOut (g : Fr × Bool) (w : World) (e : Ending) (w' : World) : Prop :=
  ∃ f ok, Hid (g = (f, ok)) ∧ e = .returned (.tuple #[.agg #[.int .i64 f.re, .int .i64 f.im, .int .i64 f.den], .bool ok]) ∧ Below w.heap.size w w'
theorem FrOut.mk {g : Fr × Bool} {x y z : Int} {ok : Bool} {w w' : World} {e : Ending} (h : Hid (g = (⟨x, y, z⟩, ok))) (he : e = .returned (.tuple #[.agg #[.int .i64 x, .int .i64 y, .int .i64 z], .bool ok])) (hb : Below w.heap.size w w') : FrOut g w e w' := ⟨⟨x, y, z⟩, ok, h, he, hb⟩
theorem FrOut.yes {g : Fr × Bool} {f : Fr} {w w' : World} (h2 : g.2 = true) (h1 : f = g.1) (hb : Below w.heap.size w w') : FrOut g w (.returned (.tuple #[.agg #[.int .i64 f.re, .int .i64 f.im, .int .i64 f.den], .bool true])) w' :=
  ⟨f, true, by show g = (f, true); rw [h1, ← h2], rfl, hb⟩
theorem FrOut.no {g : Fr × Bool} {w w' : World} (h2 : g = (fz, false)) (hb : Below w.heap.size w w') : FrOut g w (.returned (.tuple #[.agg #[.int .i64 0, .int .i64 0, .int .i64 0], .bool false])) w' :=
  ⟨fz, false, h2, rfl, hb⟩
theorem FrOut.fn {g : Fr × Bool} {w w' : World} {e : Ending} (h : FrOut g w e w') : e = .returned (.tuple #[.agg #[.int .i64 g.1.re, .int .i64 g.1.im, .int .i64 g.1.den], .bool g.2]) ∧ Below w.heap.size w w' := by
  obtain ⟨f, ok, hg, he, hb⟩ := h
  have hg' := hg.out
  subst hg'
  exact ⟨he, hb⟩
set_option maxHeartbeats 1000000 in
theorem lowest_any (re im den : Int) (r0 : -9000000000000000000 ≤ re) (r1 : re ≤ 9000000000000000000) (i0 : -9000000000000000000 ≤ im) (i1 : im ≤ 9000000000000000000) (d0 : 1 ≤ den) (d1 : den ≤ 9000000000000000000) (w : World) :
    Calls Tryd.prog 87 #[.int .i64 re, .int .i64 im, .int .i64 den] w (FrOut (low re im den) w) := by
  have n1 := ab_nonneg re
  have n2 := ab_nonneg im
  have l1 := ab_le r0 r1
  have l2 := ab_le i0 i1
  have q1 := gc_nonneg re im
  have q2 := gc_le re im _ r0 r1 i0 i1
  have gp := g3_pos re im den d0
  have gl := gc_le (gc re im) den 9000000000000000000 (by omega) q2 (by omega) d1
  have gl' : g3 re im den ≤ 9000000000000000000 := gl
  clear gl
  have HG : Hid (gc (ab re) (ab im) = gc re im) := gc_ab re im
  have HG2 : Hid (gc (gc re im) den = g3 re im den) := rfl
  have zp : Hid (den.tdiv (g3 re im den) = den / g3 re im den) := Int.tdiv_eq_ediv_of_nonneg (by omega)
  have zq0 : 0 ≤ den / g3 re im den := Int.ediv_nonneg (by omega) (by omega)
  have zq1 : den / g3 re im den ≤ 9000000000000000000 := Int.le_trans (Int.ediv_le_self _ (by omega)) d1
  cases h1 : wi (re.tdiv (g3 re im den)) (-2000000000) 2000000000
  · have hl : low re im den = (⟨0, 0, 0⟩, false) := by
      unfold low lowB cut; rw [show inP (re.tdiv (g3 re im den)) = false from h1]; rfl
    have HL := Lib.hid hl; clear hl
    generalize hg : g3 re im den = g at *
    have Hg := Lib.hid hg; clear hg
    go_enter Tryd.func87, Tryd.ntmps87
    go_wp2_with (first
      | (go_at_call 124; refine (size_any _ (by omega) (by omega) _).mono ?_; rintro e w' ⟨rfl, rfl⟩)
      | (go_at_call 123; (with_reducible refine (divisor_any (ab re) (ab im) n1 n2 (by omega) (by omega) _).mono ?_); rintro e w' ⟨rfl, n, rfl⟩; rw [HG.out])
      | (go_at_call 123; (with_reducible refine (divisor_any (gc re im) den q1 (by omega) q2 d1 _).mono ?_); rintro e w' ⟨rfl, n, rfl⟩; rw [HG2.out]))
    go_region
    go_wp2_with (go_at_call 63; (first | (with_reducible refine (within_b h1 _).mono ?_)); rintro e w' ⟨rfl, rfl⟩)
    refine bodyPost_ret (v := .tuple #[.agg #[.int .i64 0, .int .i64 0, .int .i64 0], .bool false]) (by simp [results, Tryd.results87, go_sem, *]) rfl (FrOut.mk HL rfl ?_)
    (repeat' first | exact Below.refl _ _ | apply bl_alloc | apply bl_drewN | apply bl_drew | refine bl_trans ?_ (by assumption) | refine bl_set ?_ (by first | omega | (simp <;> omega)) _)
  cases h2 : wi (im.tdiv (g3 re im den)) (-2000000000) 2000000000
  · have hl : low re im den = (⟨0, 0, 0⟩, false) := by
      unfold low lowB cut; rw [show inP (re.tdiv (g3 re im den)) = true from h1, show inP (im.tdiv (g3 re im den)) = false from h2]; rfl
    have HL := Lib.hid hl; clear hl
    generalize hg : g3 re im den = g at *
    have Hg := Lib.hid hg; clear hg
    go_enter Tryd.func87, Tryd.ntmps87
    go_wp2_with (first
      | (go_at_call 124; refine (size_any _ (by omega) (by omega) _).mono ?_; rintro e w' ⟨rfl, rfl⟩)
      | (go_at_call 123; (with_reducible refine (divisor_any (ab re) (ab im) n1 n2 (by omega) (by omega) _).mono ?_); rintro e w' ⟨rfl, n, rfl⟩; rw [HG.out])
      | (go_at_call 123; (with_reducible refine (divisor_any (gc re im) den q1 (by omega) q2 d1 _).mono ?_); rintro e w' ⟨rfl, n, rfl⟩; rw [HG2.out]))
    go_region
    go_wp2_with (go_at_call 63; (first | (with_reducible refine (within_b h1 _).mono ?_) | (with_reducible refine (within_b h2 _).mono ?_)); rintro e w' ⟨rfl, rfl⟩)
    refine bodyPost_ret (v := .tuple #[.agg #[.int .i64 0, .int .i64 0, .int .i64 0], .bool false]) (by simp [results, Tryd.results87, go_sem, *]) rfl (FrOut.mk HL rfl ?_)
    (repeat' first | exact Below.refl _ _ | apply bl_alloc | apply bl_drewN | apply bl_drew | refine bl_trans ?_ (by assumption) | refine bl_set ?_ (by first | omega | (simp <;> omega)) _)
  by_cases h3 : 2000000000 < den / g3 re im den
  · have hl : low re im den = (⟨0, 0, 0⟩, false) := by
      unfold low lowB cut; rw [show inP (re.tdiv (g3 re im den)) = true from h1, show inP (im.tdiv (g3 re im den)) = true from h2]
      simp only [zp.out]; rw [decide_eq_false (by omega)]; rfl
    have HL := Lib.hid hl; clear hl
    generalize hg : g3 re im den = g at *
    have Hg := Lib.hid hg; clear hg
    go_enter Tryd.func87, Tryd.ntmps87
    go_wp2_with (first
      | (go_at_call 124; refine (size_any _ (by omega) (by omega) _).mono ?_; rintro e w' ⟨rfl, rfl⟩)
      | (go_at_call 123; (with_reducible refine (divisor_any (ab re) (ab im) n1 n2 (by omega) (by omega) _).mono ?_); rintro e w' ⟨rfl, n, rfl⟩; rw [HG.out])
      | (go_at_call 123; (with_reducible refine (divisor_any (gc re im) den q1 (by omega) q2 d1 _).mono ?_); rintro e w' ⟨rfl, n, rfl⟩; rw [HG2.out]))
    go_region
    go_wp2_with (go_at_call 63; (first | (with_reducible refine (within_b h1 _).mono ?_) | (with_reducible refine (within_b h2 _).mono ?_)); rintro e w' ⟨rfl, rfl⟩)
    refine bodyPost_ret (v := .tuple #[.agg #[.int .i64 0, .int .i64 0, .int .i64 0], .bool false]) (by simp [results, Tryd.results87, go_sem, *]) rfl (FrOut.mk HL rfl ?_)
    (repeat' first | exact Below.refl _ _ | apply bl_alloc | apply bl_drewN | apply bl_drew | refine bl_trans ?_ (by assumption) | refine bl_set ?_ (by first | omega | (simp <;> omega)) _)
  · have hl : low re im den = (⟨re.tdiv (g3 re im den), im.tdiv (g3 re im den), den / g3 re im den⟩, true) := by
      unfold low lowB cut; rw [show inP (re.tdiv (g3 re im den)) = true from h1, show inP (im.tdiv (g3 re im den)) = true from h2]
      simp only [zp.out]; rw [decide_eq_true (by omega)]; rfl
    have HL := Lib.hid hl; clear hl
    generalize hg : g3 re im den = g at *
    have Hg := Lib.hid hg; clear hg
    go_enter Tryd.func87, Tryd.ntmps87
    go_wp2_with (first
      | (go_at_call 124; refine (size_any _ (by omega) (by omega) _).mono ?_; rintro e w' ⟨rfl, rfl⟩)
      | (go_at_call 123; (with_reducible refine (divisor_any (ab re) (ab im) n1 n2 (by omega) (by omega) _).mono ?_); rintro e w' ⟨rfl, n, rfl⟩; rw [HG.out])
      | (go_at_call 123; (with_reducible refine (divisor_any (gc re im) den q1 (by omega) q2 d1 _).mono ?_); rintro e w' ⟨rfl, n, rfl⟩; rw [HG2.out]))
    go_region
    go_wp2_with (go_at_call 63; (first | (with_reducible refine (within_b h1 _).mono ?_) | (with_reducible refine (within_b h2 _).mono ?_)); rintro e w' ⟨rfl, rfl⟩)
    refine bodyPost_ret (v := .tuple #[.agg #[.int .i64 (re.tdiv g), .int .i64 (im.tdiv g), .int .i64 (den / g)], .bool true]) (by simp [results, Tryd.results87, go_sem, *]) rfl (FrOut.mk HL rfl ?_)
    (repeat' first | exact Below.refl _ _ | apply bl_alloc | apply bl_drewN | apply bl_drew | refine bl_trans ?_ (by assumption) | refine bl_set ?_ (by first | omega | (simp <;> omega)) _)
end Go.Proofs.YtmcokdiopcpifaaDoor
namespace Go.Proofs.YtmcokdiopcpifaaDoor
open Go.RowKit Pol
/-- The code's bytes lie in the argument's memory. -/
def Code (N : Nat) (w : World) (a0 : Option Addr) (len : Nat) : Prop := ∀ i, i < len → ∃ B off, a0 = some ⟨B, off, none⟩ ∧ B < N ∧ ∃ z : Int, 0 ≤ z ∧ z < 256 ∧ w.cell? ⟨B, off + i, none⟩ = some (.int .u8 z)
theorem Code.keep {N : Nat} {w w' : World} {a0 : Option Addr} {len : Nat} (h : Code N w a0 len) (hk : ∀ B o, B < N → w'.cell? ⟨B, o, none⟩ = w.cell? ⟨B, o, none⟩) : Code N w' a0 len := fun i hi => by
  obtain ⟨B, off, h1, h2, z, h3, h4, h5⟩ := h i hi
  exact ⟨B, off, h1, h2, z, h3, h4, (hk B _ h2).trans h5⟩
/-- Nothing that was there has turned but block R. -/
structure Own (R : Nat) (w w' : World) : Prop where
  os : w'.os = w.os
  tape : w'.tape = w.tape
  output : w'.output = w.output
  size : w.heap.size ≤ w'.heap.size
  block : ∀ k, k < w.heap.size → k ≠ R → w'.heap[k]? = w.heap[k]?
theorem Own.refl (R : Nat) (w : World) : Own R w w := ⟨rfl, rfl, rfl, Nat.le_refl _, fun _ _ _ => rfl⟩
theorem Own.trans {R : Nat} {w w1 w2 : World} (h : Own R w w1) (k : Own R w1 w2) : Own R w w2 :=
  ⟨k.os.trans h.os, k.tape.trans h.tape, k.output.trans h.output, Nat.le_trans h.size k.size, fun i hi hn => (k.block i (Nat.lt_of_lt_of_le hi h.size) hn).trans (h.block i hi hn)⟩
theorem Own.below {R : Nat} {w w1 w2 : World} (h : Own R w w1) (k : Below w1.heap.size w1 w2) : Own R w w2 :=
  ⟨k.os.trans h.os, k.tape.trans h.tape, k.output.trans h.output, Nat.le_trans h.size k.size, fun i hi hn => (k.block i (Nat.lt_of_lt_of_le hi h.size)).trans (h.block i hi hn)⟩
theorem Own.after {R : Nat} {w w1 w2 : World} (k : Below w.heap.size w w1) (h : Own R w1 w2) : Own R w w2 :=
  ⟨h.os.trans k.os, h.tape.trans k.tape, h.output.trans k.output, Nat.le_trans k.size h.size, fun i hi hn => (h.block i (Nat.lt_of_lt_of_le hi k.size) hn).trans (k.block i hi)⟩
theorem Own.set (R : Nat) (o : Nat) (w : World) (v : Value) : Own R w (w.setCell ⟨R, o, none⟩ v) :=
  ⟨rfl, rfl, rfl, by rw [World.size_setCell]; exact Nat.le_refl _, fun i _ hn => Below.heap_setCell _ _ _ _ hn⟩
theorem Own.drew {R : Nat} {w w1 : World} (h : Own R w w1) : Own R w w1.drew := ⟨h.os, h.tape, h.output, h.size, h.block⟩
theorem Own.drewN {R : Nat} {w w1 : World} (h : Own R w w1) (n : Nat) : Own R w (w1.drewN n) := ⟨h.os, h.tape, h.output, h.size, h.block⟩
theorem Own.mine {R : Nat} {a w w' : World} (h : Own R w w') (k : Below a.heap.size a w) (hb : a.heap.size ≤ R) : Below a.heap.size a w' :=
  k.trans ⟨h.os, h.tape, h.output, h.size, fun i hi => h.block i (Nat.lt_of_lt_of_le hi k.size) (by omega)⟩
theorem Own.cell {R : Nat} {w w1 : World} (h : Own R w w1) {k : Nat} (hk : k < w.heap.size) (hn : k ≠ R) (o : Nat) : w1.cell? ⟨k, o, none⟩ = w.cell? ⟨k, o, none⟩ := World.cell?_of_block (h.block k hk hn)
theorem Own.frozen {R : Nat} {w w1 : World} (h : Own R w w1) {k : Nat} (hk : k < w.heap.size) (hn : k ≠ R) (o : Nat) : w1.frozen? ⟨k, o, none⟩ = w.frozen? ⟨k, o, none⟩ := World.frozen?_of_block (h.block k hk hn)
/-- The reader in block R, at most k bytes on. -/
structure Rd (N R : Nat) (a0 : Option Addr) (len cap k : Nat) (w : World) : Prop where
  lt : R < w.heap.size
  base : N ≤ R
  slice : w.cell? ⟨R, 0, none⟩ = some (.slice a0 len cap)
  place : ∃ p : Nat, p ≤ k ∧ w.cell? ⟨R, 1, none⟩ = some (.int .i64 p)
  free : w.frozen? ⟨R, 1, none⟩ = false
  short : len ≤ 2000
  code : Code N w a0 len
theorem Rd.mono {N R : Nat} {a0 : Option Addr} {len cap k k' : Nat} {w : World} (h : Rd N R a0 len cap k w) (hk : k ≤ k') : Rd N R a0 len cap k' w :=
  ⟨h.lt, h.base, h.slice, by obtain ⟨p, h1, h2⟩ := h.place; exact ⟨p, Nat.le_trans h1 hk, h2⟩, h.free, h.short, h.code⟩
theorem Rd.next {N R : Nat} {a0 : Option Addr} {len cap k : Nat} {w w' : World} (h : Rd N R a0 len cap k w) (hb : Below w.heap.size w w') : Rd N R a0 len cap k w' :=
  ⟨Nat.lt_of_lt_of_le h.lt hb.size, h.base, (hb.cell (p := ⟨R, 0, none⟩) h.lt).trans h.slice, by obtain ⟨p, h1, h2⟩ := h.place; exact ⟨p, h1, (hb.cell (p := ⟨R, 1, none⟩) h.lt).trans h2⟩, (hb.frozen (p := ⟨R, 1, none⟩) h.lt).trans h.free, h.short, h.code.keep fun B o hB => hb.cell (p := ⟨B, o, none⟩) (by show B < _; have := h.lt; have := h.base; omega)⟩
theorem Rd.alloc {N R : Nat} {a0 : Option Addr} {len cap k : Nat} {w : World} (h : Rd N R a0 len cap k w) (o : Obj) : Rd N R a0 len cap k (w.alloc o) := h.next ((Below.refl _ _).alloc (Nat.le_refl _) o)
theorem Rd.drew {N R : Nat} {a0 : Option Addr} {len cap k : Nat} {w : World} (h : Rd N R a0 len cap k w) : Rd N R a0 len cap k w.drew := ⟨h.lt, h.base, h.slice, h.place, h.free, h.short, h.code⟩
theorem Rd.drewN {N R : Nat} {a0 : Option Addr} {len cap k : Nat} {w : World} (h : Rd N R a0 len cap k w) (n : Nat) : Rd N R a0 len cap k (w.drewN n) := ⟨h.lt, h.base, h.slice, h.place, h.free, h.short, h.code⟩
theorem Rd.put {N R : Nat} {a0 : Option Addr} {len cap k : Nat} {w : World} (h : Rd N R a0 len cap k w) {b o : Nat} (hb : R < b) (v : Value) : Rd N R a0 len cap k (w.setCell ⟨b, o, none⟩ v) := by
  have hf : ∀ B q, B < b → (w.setCell ⟨b, o, none⟩ v).cell? ⟨B, q, none⟩ = w.cell? ⟨B, q, none⟩ := fun B q hB => World.cell?_setCell_far _ _ _ _ (by show b ≠ B; omega)
  refine ⟨by rw [World.size_setCell]; exact h.lt, h.base, (hf _ _ hb).trans h.slice, by obtain ⟨p, h1, h2⟩ := h.place; exact ⟨p, h1, (hf _ _ hb).trans h2⟩, by rw [World.frozen?_setCell]; exact h.free, h.short, h.code.keep fun B q hB => hf B q (by have := h.base; omega)⟩
theorem xor_nn {a b : Int} (a0 : 0 ≤ a) (a1 : a < 4611686018427387904) (b0 : 0 ≤ b) (b1 : b < 4611686018427387904) : 0 ≤ bits .xor .i64 a b ∧ bits .xor .i64 a b < 4611686018427387904 := by
  obtain ⟨m, rfl⟩ := Int.eq_ofNat_of_zero_le a0
  obtain ⟨n, rfl⟩ := Int.eq_ofNat_of_zero_le b0
  have e : bits .xor .i64 (m : Int) (n : Int) = ((m ^^^ n : Nat) : Int) := by
    show IntKind.i64.wrap ((BitVec.ofInt 64 (m : Int) ^^^ BitVec.ofInt 64 (n : Int)).toNat : Int) = _
    have h1 : (BitVec.ofInt 64 (m : Int)).toNat = m := by
      rw [BitVec.ofInt_natCast, BitVec.toNat_ofNat]; exact Nat.mod_eq_of_lt (by omega)
    have h2 : (BitVec.ofInt 64 (n : Int)).toNat = n := by
      rw [BitVec.ofInt_natCast, BitVec.toNat_ofNat]; exact Nat.mod_eq_of_lt (by omega)
    have h3 : m ^^^ n < 2 ^ 62 := Nat.xor_lt_two_pow (by omega) (by omega)
    rw [BitVec.toNat_xor, h1, h2, IntKind.wrap_i64]
    omega
  have h3 : m ^^^ n < 2 ^ 62 := Nat.xor_lt_two_pow (by omega) (by omega)
  rw [e]
  omega
theorem Own.alloc {R : Nat} {w w1 : World} (h : Own R w w1) (o : Obj) : Own R w (w1.alloc o) := h.below ((Below.refl _ _).alloc (Nat.le_refl _) o)
/-- What a reading hands back. -/
def RdOut (P : Value → Prop) (N R : Nat) (a0 : Option Addr) (len cap k : Nat) (w : World) (e : Ending) (w' : World) : Prop := ∃ v, e = .returned v ∧ P v ∧ Own R w w' ∧ Rd N R a0 len cap k w'
def NumP (n : Int) (v : Value) : Prop := ∃ m : Int, v = .int .i64 m ∧ 0 ≤ m ∧ m < n
set_option maxRecDepth 100000 in
set_option maxHeartbeats 4000000 in
theorem pick_any {N R : Nat} {a0 : Option Addr} {len cap k : Nat} {w : World} (n : Int) (hn : 1 ≤ n) (hn2 : n ≤ 1000) (hk : k ≤ 100000) (h : Rd N R a0 len cap k w) :
    Calls Tryd.prog 91 #[.pointer (some ⟨R, 0, none⟩), .int .i64 n] w (RdOut (NumP n) N R a0 len cap (k + 1) w) := by
  obtain ⟨p, hp, hc⟩ := h.place
  have hs := h.slice
  have hf := h.free
  have hs2 : (w.setCell ⟨R, 1, none⟩ (.int .i64 ((p : Int) + 1))).cell? ⟨R, 0, none⟩ = some (.slice a0 len cap) := by
    exact (World.cell?_setCell_other _ _ _ _ (by simp)).trans hs
  have hc2 : (w.setCell ⟨R, 1, none⟩ (.int .i64 ((p : Int) + 1))).cell? ⟨R, 1, none⟩ = some (.int .i64 ((p : Int) + 1)) := World.cell?_setCell_same' _ _ _ (by rw [hc]; rfl)
  have hO : Own R w (w.setCell ⟨R, 1, none⟩ (.int .i64 ((p : Int) + 1))) := Own.set R 1 w _
  have hC : Code N (w.setCell ⟨R, 1, none⟩ (.int .i64 ((p : Int) + 1))) a0 len := h.code.keep fun B o hB => World.cell?_setCell_far _ _ _ _ (by show R ≠ B; have := h.base; omega)
  have hR : Rd N R a0 len cap (k + 1) (w.setCell ⟨R, 1, none⟩ (.int .i64 ((p : Int) + 1))) :=
    ⟨by rw [World.size_setCell]; exact h.lt, h.base, hs2, ⟨p + 1, by omega, by exact_mod_cast hc2⟩, by rw [World.frozen?_setCell]; exact hf, h.short, hC⟩
  have hl := h.short
  have HO := Lib.hid hO; have HR := Lib.hid hR; clear hO hR h
  have hp2 : (p : Int) ≤ 100000 := by omega
  have hp0 : (0 : Int) ≤ (p : Int) := by omega
  have g1 : ¬ n < 1 := by omega
  rcases Nat.eq_zero_or_pos len with h0 | h0
  · subst h0
    go_enter Tryd.func91, Tryd.ntmps91
    go_wp2
    go_ret
    exact ⟨_, rfl, ⟨0, rfl, by omega, by omega⟩, HO.out, HR.out⟩
  · have g2 : ¬ (len : Int) = 0 := by omega
    rcases Nat.lt_or_ge p len with h1 | h1
    · obtain ⟨B, off, rfl, hB, z, z0, z1, hz⟩ := hC p h1
      have g3 : (p : Int) < (len : Int) := by omega
      clear hC
      go_enter Tryd.func91, Tryd.ntmps91
      go_wp2
      go_ret
      exact ⟨_, rfl, ⟨z % n, rfl, Int.emod_nonneg _ (by omega), Int.emod_lt_of_pos _ (by omega)⟩, HO.out, HR.out⟩
    · have g3 : ¬ (p : Int) < (len : Int) := by omega
      obtain ⟨m1, hm1⟩ : ∃ m, m = p % len := ⟨_, rfl⟩
      obtain ⟨m2, hm2⟩ : ∃ m, m = (p * 7 + 3) % len := ⟨_, rfl⟩
      obtain ⟨q, hq⟩ : ∃ m, m = p / len := ⟨_, rfl⟩
      have l1 : m1 < len := hm1 ▸ Nat.mod_lt _ h0
      have l2 : m2 < len := hm2 ▸ Nat.mod_lt _ h0
      have l3 : q ≤ p := hq ▸ Nat.div_le_self _ _
      obtain ⟨B, off, rfl, hB, z, z0, z1, hz⟩ := hC m1 l1
      obtain ⟨B', off', e', hB', y, y0, y1, hy⟩ := hC m2 l2
      obtain ⟨rfl, rfl⟩ : B = B' ∧ off = off' := by injection e' with e'; injection e' with e1 e2; exact ⟨e1, e2⟩
      clear e' hC hB'
      have c1 : (p : Int) % (len : Int) = (m1 : Int) := by rw [hm1]; simp
      have c2 : ((p : Int) * 7 + 3) % (len : Int) = (m2 : Int) := by rw [hm2]; simp
      have c3 : (p : Int) / (len : Int) = (q : Int) := by rw [hq]; rfl
      have t1 : (p : Int).tmod (len : Int) = (m1 : Int) := by rw [Int.tmod_eq_emod_of_nonneg (by omega), c1]
      have t2 : ((p : Int) * 7 + 3).tmod (len : Int) = (m2 : Int) := by rw [Int.tmod_eq_emod_of_nonneg (by omega), c2]
      have t3 : (p : Int).tdiv (len : Int) = (q : Int) := by rw [Int.tdiv_eq_ediv_of_nonneg (by omega), c3]
      clear hm1 hm2 hq
      go_enter Tryd.func91, Tryd.ntmps91
      go_wp2
      go_quiet (fail)
      go_wp2
      have hx := xor_nn (a := z * 131 + y * 1117 + ↑p * 29 + ↑q * 53) (b := (z * 131 + y * 1117 + ↑p * 29 + ↑q * 53) / 64) (by omega) (by omega) (by omega) (by omega)
      go_ret
      exact ⟨_, rfl, ⟨_, rfl, Int.tmod_nonneg _ hx.1, Int.tmod_lt_of_pos _ (by omega)⟩, HO.out.drewN _, HR.out.drewN _⟩
end Go.Proofs.YtmcokdiopcpifaaDoor
