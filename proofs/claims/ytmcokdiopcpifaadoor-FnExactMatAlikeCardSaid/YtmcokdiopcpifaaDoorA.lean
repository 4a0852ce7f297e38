/- Contracts of the small helpers. -/
import Derived.Test.YtmcokdiopcpifaaDoorChecked
import Derived.Test.YtmcokdiopcpifaaDoorPlain
import Derived.WalkKit
import Derived.WalkSpells
import Derived.WalkLawsBesides
import Derived.Lib.Hide
import Derived.RegionTactic
import Derived.Deep.QuietTactic
import Derived.BigQuiet
import Derived.Outline
set_option maxRecDepth 100000
namespace Go.Proofs.YtmcokdiopcpifaaDoor
open Go.RowKit Pol

theorem ret_int {k : IntKind} {a b : Int} (h : a = b) : Ending.returned (.int k a) = .returned (.int k b) := by rw [h]
/-- Between two bounds. -/
def wi (n lo hi : Int) : Bool := decide (lo ≤ n) && decide (n ≤ hi)

theorem within_any (n lo hi : Int) (w : World) :
    Calls Tryd.prog 63 #[.int .i64 n, .int .i64 lo, .int .i64 hi] w fun e w' => e = .returned (.bool (wi n lo hi)) ∧ w = w' := by
  unfold wi
  go_enter Tryd.func63, Tryd.ntmps63
  go_wp2
  all_goals go_ret
  all_goals (simp [*]; try omega)

def ab (n : Int) : Int := n.natAbs

theorem size_any (n : Int) (h : -9000000000000000000 ≤ n) (h' : n ≤ 9000000000000000000) (w : World) :
    Calls Tryd.prog 124 #[.int .i64 n] w fun e w' => e = .returned (.int .i64 (ab n)) ∧ w = w' := by
  unfold ab
  go_enter Tryd.func124, Tryd.ntmps124
  go_wp2
  all_goals go_ret
  all_goals (refine ⟨ret_int ?_, rfl⟩; omega)

theorem divisor_any (a b : Int) (ha : 0 ≤ a) (hb : 0 ≤ b) (ha' : a ≤ 9000000000000000000) (hb' : b ≤ 9000000000000000000) (w : World) :
    Calls Tryd.prog 123 #[.int .i64 a, .int .i64 b] w fun e w' => e = .returned (.int .i64 (gc a b)) ∧ ∃ n, w' = w.drewN n := by
  go_enter Tryd.func123, Tryd.ntmps123
  go_wp2
  go_loopw [0, 1] (fun x y wr => ∃ c d : Int, x = .int .i64 c ∧ y = .int .i64 d ∧ 0 ≤ c ∧ 0 ≤ d ∧ c ≤ 9000000000000000000 ∧ d ≤ 9000000000000000000 ∧ Hid (gc c d = gc a b) ∧ Hid (∃ n, wr = w.drewN n))
    (fun _ y _ => (intOf y).toNat)
  case atStart => exact ⟨a, b, rfl, rfl, ha, hb, ha', hb', rfl, 0, rfl⟩
  case round =>
    obtain ⟨c, d, rfl, rfl, hc, hd, hc', hd', HG, HW⟩ := hrel
    by_cases h0 : d = 0
    · subst h0
      go_wp2
      go_ret
      obtain ⟨n, hn⟩ := HW.out
      exact ⟨ret_int (by have := HG.out; rw [gc_zero] at this; omega), n, hn⟩
    · have hne : (d != 0) = true := by simp [h0]
      go_wp2
      go_quiet (fail)
      go_wp2
      have hm := Int.emod_lt_of_pos c (show 0 < d by omega)
      have hm0 := Int.emod_nonneg c h0
      have HG2 : gc d (c % d) = gc a b := by
        have := gc_tmod c d
        rw [Int.tmod_eq_emod_of_nonneg hc] at this
        rw [this]; exact HG.out
      obtain ⟨n, hn⟩ := HW.out
      go_roundw
      case rel => exact ⟨d, c % d, rfl, rfl, hd, hm0, hd', by omega, HG2, n + nq, by rw [hn, World.drewN_drewN]⟩
      case measure => simp [intOf]; omega

/-! The three once more, for a region in which all only read. -/
theorem within_q {n lo hi : Int} {b : Bool} (h : wi n lo hi = b) (w : World) (k : Nat) :
    Calls Tryd.prog 63 #[.int .i64 n, .int .i64 lo, .int .i64 hi] (w.drewN k) fun e w' => e = .returned (.bool b) ∧ ∃ m, w' = w.drewN m :=
  (within_any n lo hi (w.drewN k)).mono fun _ _ g => ⟨by rw [← h]; exact g.1, k, g.2.symm⟩
theorem size_q (n : Int) (h : -9000000000000000000 ≤ n) (h' : n ≤ 9000000000000000000) (w : World) (k : Nat) :
    Calls Tryd.prog 124 #[.int .i64 n] (w.drewN k) fun e w' => e = .returned (.int .i64 (ab n)) ∧ ∃ m, w' = w.drewN m :=
  (size_any n h h' (w.drewN k)).mono fun _ _ h => ⟨h.1, k, h.2.symm⟩
theorem divisor_q (a b c : Int) (h : gc a b = c) (ha : 0 ≤ a) (hb : 0 ≤ b) (ha' : a ≤ 9000000000000000000) (hb' : b ≤ 9000000000000000000) (w : World) (k : Nat) :
    Calls Tryd.prog 123 #[.int .i64 a, .int .i64 b] (w.drewN k) fun e w' => e = .returned (.int .i64 c) ∧ ∃ m, w' = w.drewN m :=
  (divisor_any a b ha hb ha' hb' (w.drewN k)).mono fun _ _ ⟨g, m, hm⟩ => ⟨by rw [← h]; exact g, k + m, by rw [hm, World.drewN_drewN]⟩
theorem wi_true {n lo hi : Int} (h : wi n lo hi = true) : lo ≤ n ∧ n ≤ hi := by unfold wi at h; simpa using h
theorem ab_nonneg (n : Int) : 0 ≤ ab n := by unfold ab; omega
theorem ab_le {n m : Int} (h : -m ≤ n) (h' : n ≤ m) : ab n ≤ m := by unfold ab; omega
theorem gc_ab (a b : Int) : gc (ab a) (ab b) = gc a b := by unfold ab; rw [gc_abs_left, gc_abs_right]
theorem gc_le (a b m : Int) (h : -m ≤ a) (h1 : a ≤ m) (h' : -m ≤ b) (h2 : b ≤ m) : gc a b ≤ m := by
  unfold gc
  by_cases ha : a = 0
  · subst ha; rw [Int.gcd_zero_left]; omega
  · have := Int.gcd_le_natAbs_left b ha; omega
theorem within_b {n lo hi : Int} {b : Bool} (h : wi n lo hi = b) (w : World) :
    Calls Tryd.prog 63 #[.int .i64 n, .int .i64 lo, .int .i64 hi] w fun e w' => e = .returned (.bool b) ∧ w = w' :=
  (within_any n lo hi w).mono fun _ _ g => ⟨by rw [← h]; exact g.1, g.2⟩
end Go.Proofs.YtmcokdiopcpifaaDoor
