/- Contracts of the reference: determinants. -/
import Derived.Test.YtmcokdiopcpifaaDoorPjG8
import Derived.Test.YtmcokdiopcpifaaDoorPjI
set_option maxRecDepth 100000
namespace Go.Proofs.YtmcokdiopcpifaaDoor
open Go.RowKit Pol
theorem FrOut.is {g g' : Fr × Bool} {w w' : World} (h : g = g') (hb : Below w.heap.size w w') : FrOut g w (.returned (.tuple #[.agg #[.int .i64 g'.1.re, .int .i64 g'.1.im, .int .i64 g'.1.den], .bool g'.2])) w' := ⟨g'.1, g'.2, h, rfl, hb⟩
end Go.Proofs.YtmcokdiopcpifaaDoor
namespace Go.Proofs.YtmcokdiopcpifaaDoor
open Go.RowKit Pol
/-- Is it a direction? -/
def dirB (p q : Int) : Bool := wi p (-100) 100 && wi q (-100) 100 && !(decide (p = 0) && decide (q = 0))
def dC (p q : Int) : Fr := (low (p * p - q * q) 0 (p * p + q * q)).1
def dS (p q : Int) : Fr := (low (2 * p * q) 0 (p * p + q * q)).1
theorem sqn (a : Int) : 0 ≤ a * a := by
  rcases Int.le_total 0 a with h | h
  · exact Int.mul_nonneg h h
  · have := Int.mul_nonneg (a := -a) (b := -a) (by omega) (by omega)
    rwa [Int.neg_mul_neg] at this
set_option maxHeartbeats 2000000 in
/-- Where the parts are small. -/
theorem fracMake_any (re im den : Int) (r0 : -1000000000000000000 ≤ re) (r1 : re ≤ 1000000000000000000) (i0 : -1000000000000000000 ≤ im) (i1 : im ≤ 1000000000000000000) (d0 : 1 ≤ den) (d1 : den ≤ 1000000000000000000) (w : World) :
    Calls Tryd.prog 119 #[.int .i64 re, .int .i64 im, .int .i64 den] w (FrOut (low re im den) w) := by
  have h1 : wi den 1 1000000000000000000 = true := by unfold wi; simp; omega
  have h2 : wi re (-1000000000000000000) 1000000000000000000 = true := by unfold wi; simp; omega
  have h3 : wi im (-1000000000000000000) 1000000000000000000 = true := by unfold wi; simp; omega
  have H1 := Lib.hid h1; have H2 := Lib.hid h2; have H3 := Lib.hid h3; clear h1 h2 h3
  go_enter Tryd.func119, Tryd.ntmps119
  go_wp2_with (go_at_call 61; (first | (with_reducible refine (l6In_b H1.out _).mono ?_) | (with_reducible refine (l6In_b H2.out _).mono ?_) | (with_reducible refine (l6In_b H3.out _).mono ?_)); rintro e w' ⟨rfl, rfl⟩)
  refine (l2Low_any re im den (by omega) (by omega) (by omega) (by omega) d0 (by omega) _).mono ?_
  rintro e w1 ho
  obtain ⟨rfl, hb⟩ := ho.fn
  have kc := fun o => hb.cell (p := ⟨w.heap.size, o, none⟩) (by show w.heap.size < _; simp)
  have kf := fun o => hb.frozen (p := ⟨w.heap.size, o, none⟩) (by show w.heap.size < _; simp)
  have HB := Lib.hid (show Below w.heap.size w w1 from by (repeat' first | exact Below.refl _ _ | apply bl_alloc | apply bl_drewN | apply bl_drew | refine bl_trans ?_ (by assumption) | refine bl_set ?_ (by first | omega | (simp <;> omega)) _))
  clear ho hb
  go_wp2
  refine bodyPost_ret (v := .tuple #[.agg #[.int .i64 (low re im den).1.re, .int .i64 (low re im den).1.im, .int .i64 (low re im den).1.den], .bool (low re im den).2]) (by simp [results, Tryd.results119, go_sem, *]) rfl (FrOut.is rfl ?_)
  (repeat' first | (with_reducible exact HB.out) | with_reducible refine setCells_below _ _ _ ?_ (by first | omega | (simp <;> omega)) | with_reducible refine Below.setCell ?_ (by show _ ≤ _; first | omega | (simp <;> omega) | simp) _ | with_reducible refine Below.alloc ?_ (by first | omega | (simp <;> omega)) _ | with_reducible apply Below.drew)
end Go.Proofs.YtmcokdiopcpifaaDoor
