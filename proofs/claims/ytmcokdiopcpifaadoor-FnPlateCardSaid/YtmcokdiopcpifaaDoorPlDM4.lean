/- Contracts: draws of a direction and a phase. -/
import Derived.Test.YtmcokdiopcpifaaDoorPlG19
set_option maxRecDepth 100000
namespace Go.Proofs.YtmcokdiopcpifaaDoor
open Go.RowKit Pol
set_option maxRecDepth 100000 in
set_option maxHeartbeats 4000000 in
theorem DrawMatPlate_any (a0 : Option Addr) (len cap : Nat) (w : World) (hc : len ≤ cap) (HC : Code w.heap.size w a0 len) :
    Calls Tryd.prog 49 #[.slice a0 len cap] w fun e w' => ∃ p q k : Int, e = .returned (.tuple #[.int .i64 p, .int .i64 q, .int .i64 k]) ∧ Below w.heap.size w w' := by
  go_enter Tryd.func49, Tryd.ntmps49
  go_wp2_with fail
  refine (open_any w.heap.size a0 len cap _ (Nat.le_refl _) hc HC).mono ?_
  rintro e w1 ⟨R, len', rfl, hb, hRb, hR⟩
  have HB := Lib.hid hb
  have hRl := hR.lt
  clear hb
  go_wp2_with fail
  refine (l91Direction_any (by omega) hR).mono ?_
  rintro e w2 ⟨v, rfl, ⟨p, q, rfl⟩, hO, hR2⟩
  have HB := Lib.hid (hO.mine HB.out (by omega))
  clear hR hO
  go_wp2_with fail
  refine (pick_any 5 (by omega) (by omega) (by omega) hR2).mono ?_
  rintro e w3 ⟨v, rfl, ⟨m, rfl, m0, m1⟩, hO, hR3⟩
  have HB := Lib.hid (hO.mine HB.out (by omega))
  clear hR2 hO
  go_wp2_with fail
  refine (pick_any 20 (by omega) (by omega) (by omega) hR3).mono ?_
  rintro e w4 ⟨v, rfl, ⟨n, rfl, n0, n1⟩, hO, hR4⟩
  have HB := Lib.hid (hO.mine HB.out (by omega))
  clear hR3 hO hR4
  have hd : 0 ≤ n.tdiv 19 ∧ n.tdiv 19 ≤ 1 := by
    rw [Int.tdiv_eq_ediv_of_nonneg n0]
    omega
  have hd0 := hd.1
  have hd1 := hd.2
  go_wp2
  refine bodyPost_ret (v := .tuple #[.int .i64 p, .int .i64 q, .int .i64 (m - n.tdiv 19)]) (by simp [results, Tryd.results49, go_sem, *]) rfl ⟨p, q, _, rfl, HB.out⟩
end Go.Proofs.YtmcokdiopcpifaaDoor
