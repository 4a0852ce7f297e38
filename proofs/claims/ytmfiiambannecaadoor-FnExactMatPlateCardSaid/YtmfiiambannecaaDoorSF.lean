/- Contracts: the four numbers of a vector, the reference's side; parts of fractions, the program's side. -/
import Derived.Test.YtmfiiambannecaaDoorQ5
import Derived.Test.YtmfiiambannecaaDoorJ
import Derived.Test.YtmfiiambannecaaDoorW
namespace Go.Proofs.YtmfiiambannecaaDoor
open Go.RowKit Pol

set_option maxHeartbeats 2000000 in
theorem l4twice_any (n den : Int) (h0 : -1000000000000000000 ≤ 2 * n) (h1 : 2 * n ≤ 1000000000000000000) (d0 : 1 ≤ den) (d1 : den ≤ 1000000000000000000) (w : World) :
    Calls Tryd.prog 30 #[.int .i64 n, .int .i64 den] w (FrOut (low (2 * n) 0 den) w) := by
  go_enter Tryd.func30, Tryd.ntmps30
  have HB : Hid (Below w.heap.size w (w.alloc (.cells #[.int .i64 0, .int .i64 0, .int .i64 0] 28))) := by
    show Below _ _ _
    (repeat' first | exact Below.refl _ _ | apply bl_alloc | apply bl_drewN | apply bl_drew | refine bl_trans ?_ (by assumption) | refine bl_set ?_ (by first | omega | (simp <;> omega)) _)
  go_wp2_with fail
  refine (fracMake_any (2 * n) 0 den (by omega) (by omega) (by omega) (by omega) (by omega) (by omega) _).mono ?_
  rintro e w1 ho
  obtain ⟨rfl, hb⟩ := ho.fn
  obtain ⟨hc, hf, hz⟩ := bcellk (B := w.heap.size + 1) hb (by first | omega | (simp <;> omega))
  have HB := Lib.hid (show Below w.heap.size w w1 from HB.out.trans (hb.mono HB.out.size))
  clear ho hb
  go_wp2
  refine bodyPost_ret (v := .tuple #[.agg #[.int .i64 (low (2 * n) 0 den).1.re, .int .i64 (low (2 * n) 0 den).1.im, .int .i64 (low (2 * n) 0 den).1.den], .bool (low (2 * n) 0 den).2]) (by simp [results, Tryd.results30, go_sem, *]) rfl (FrOut.is rfl ?_)
  (repeat' first | (with_reducible exact HB.out) | with_reducible refine setCells_below _ _ _ ?_ (by first | omega | (simp <;> omega)) | with_reducible refine Below.setCell ?_ (by show _ ≤ _; first | omega | (simp <;> omega) | simp) _ | with_reducible refine Below.alloc ?_ (by first | omega | (simp <;> omega)) _ | with_reducible apply Below.drew)
end Go.Proofs.YtmfiiambannecaaDoor
