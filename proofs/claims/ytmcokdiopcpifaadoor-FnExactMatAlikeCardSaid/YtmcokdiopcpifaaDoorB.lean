/- Contracts. -/
import Derived.Test.YtmcokdiopcpifaaDoorA
set_option maxRecDepth 100000
namespace Go.Proofs.YtmcokdiopcpifaaDoor
open Go.RowKit Pol
theorem vld_wi (x y z : Int) : vld ⟨x, y, z⟩ = (wi x (-2000000000) 2000000000 && wi y (-2000000000) 2000000000 && wi z 1 2000000000 && (g3 x y z == 1)) := by
  unfold vld wi inP; rfl
theorem below_box (w : World) (o : Obj) (n : Nat) : Below w.heap.size w ((w.alloc o).drewN n) := below_drewN ((Below.refl _ _).alloc (Nat.le_refl _) _) n
theorem ret_bool {a b : Bool} (h : a = b) : Ending.returned (.bool a) = .returned (.bool b) := by rw [h]
set_option maxHeartbeats 1000000 in
theorem valid_any (x y z : Int) (w : World) :
    Calls Tryd.prog 86 #[.agg #[.int .i64 x, .int .i64 y, .int .i64 z]] w fun e w' => e = .returned (.bool (vld ⟨x, y, z⟩)) ∧ Below w.heap.size w w' := by
  rw [vld_wi]
  cases h1 : wi x (-2000000000) 2000000000
  · go_enter Tryd.func86, Tryd.ntmps86
    go_wp2
    go_quiet ((go_at_call 63; with_reducible exact within_q h1 _ _))
    go_wp2
    go_ret
    exact ⟨rfl, below_box _ _ _⟩
  cases h2 : wi y (-2000000000) 2000000000
  · go_enter Tryd.func86, Tryd.ntmps86
    go_wp2
    go_quiet ((go_at_call 63; first | with_reducible exact within_q h1 _ _ | with_reducible exact within_q h2 _ _))
    go_wp2
    go_ret
    exact ⟨rfl, below_box _ _ _⟩
  cases h3 : wi z 1 2000000000
  · go_enter Tryd.func86, Tryd.ntmps86
    go_wp2
    go_quiet ((go_at_call 63; first | with_reducible exact within_q h1 _ _ | with_reducible exact within_q h2 _ _ | with_reducible exact within_q h3 _ _))
    go_wp2
    go_ret
    exact ⟨rfl, below_box _ _ _⟩
  obtain ⟨a1, a2⟩ := wi_true h1
  obtain ⟨b1, b2⟩ := wi_true h2
  obtain ⟨c1, c2⟩ := wi_true h3
  have n1 := ab_nonneg x
  have n2 := ab_nonneg y
  have l1 := ab_le a1 a2
  have l2 := ab_le b1 b2
  have q1 := gc_nonneg x y
  have q2 := gc_le x y _ a1 a2 b1 b2
  have G := gc_ab x y
  have HG : Hid (gc (ab x) (ab y) = gc x y) := G
  clear G
  go_enter Tryd.func86, Tryd.ntmps86
  go_wp2
  go_quiet (first
    | (go_at_call 63; first | with_reducible exact within_q h1 _ _ | with_reducible exact within_q h2 _ _ | with_reducible exact within_q h3 _ _)
    | (go_at_call 124; exact size_q _ (by omega) (by omega) _ _)
    | (go_at_call 123; first | with_reducible exact divisor_q _ _ _ HG.out n1 n2 (by omega) (by omega) _ _ | with_reducible exact divisor_q _ _ _ rfl q1 (by omega) (by omega) (by omega) _ _))
  go_wp2
  go_ret
  exact ⟨rfl, below_box _ _ _⟩
end Go.Proofs.YtmcokdiopcpifaaDoor
