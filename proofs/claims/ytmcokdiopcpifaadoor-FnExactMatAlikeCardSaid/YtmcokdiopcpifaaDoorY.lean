/- Contracts: the mirrored numbers. -/
import Derived.Test.YtmcokdiopcpifaaDoorF
import Derived.Test.YtmcokdiopcpifaaDoorN
import Derived.Test.YtmcokdiopcpifaaDoorT
set_option maxRecDepth 100000
namespace Go.Proofs.YtmcokdiopcpifaaDoor
open Go.RowKit Pol

/-- The last of four with another one in its place. -/
def setD (m : M4) (f : Fr) : M4 := ⟨m.a, m.b, m.c, f⟩
theorem BoxAt.putD {w : World} {N : Nat} {m : M4} (h : BoxAt w N m.get 4) (r : Room w N 4) (f : Fr) : BoxAt (putF w N 3 f) N (setD m f).get 4 :=
  BoxAt.put (n := 4) (k := 3) (g := (setD m f).get) (fun k hk => by
    have h' := h k (by omega)
    have : k = 0 ∨ k = 1 ∨ k = 2 := by omega
    rcases this with rfl | rfl | rfl <;> exact h') r (by omega)
theorem BoxAt.setRe {w : World} {N : Nat} {m : M4} (h : BoxAt w N m.get 4) (r : Room w N 4) (x : Int) : BoxAt (w.setCell ⟨N, 9, none⟩ (.int .i64 x)) N (setD m ⟨x, m.d.im, m.d.den⟩).get 4 := fun k hk => by
  have h' := h k (by omega)
  have oth : ∀ p, 9 ≠ p → (w.setCell ⟨N, 9, none⟩ (.int .i64 x)).cell? ⟨N, p, none⟩ = w.cell? ⟨N, p, none⟩ := fun p hn => World.cell?_setCell_other _ _ _ _ (ne_off hn)
  have : k = 0 ∨ k = 1 ∨ k = 2 ∨ k = 3 := by omega
  rcases this with rfl | rfl | rfl | rfl
  · exact ⟨(oth _ (by omega)).trans h'.1, (oth _ (by omega)).trans h'.2.1, (oth _ (by omega)).trans h'.2.2⟩
  · exact ⟨(oth _ (by omega)).trans h'.1, (oth _ (by omega)).trans h'.2.1, (oth _ (by omega)).trans h'.2.2⟩
  · exact ⟨(oth _ (by omega)).trans h'.1, (oth _ (by omega)).trans h'.2.1, (oth _ (by omega)).trans h'.2.2⟩
  · exact ⟨World.cell?_setCell_same' _ _ _ (r 9 (by omega)).1, (oth _ (by omega)).trans h'.2.1, (oth _ (by omega)).trans h'.2.2⟩
theorem gMir_no {m : M4} (h : all4 realB m = false) : gMir m = (m4z, false) := by unfold gMir; rw [if_neg (by rw [h]; simp)]
theorem gMir_yes {m : M4} (h : all4 realB m = true) : gMir m = (setD m ⟨-m.d.re, m.d.im, m.d.den⟩, true) := by unfold gMir; rw [if_pos h]; rfl
theorem real_d {m : M4} (h : all4 realB m = true) : m.d.im = 0 ∧ -2000000000 ≤ m.d.re ∧ m.d.re ≤ 2000000000 := by
  obtain ⟨_, _, _, hd⟩ := all4_iff.1 h
  unfold realB at hd
  simp only [Bool.and_eq_true, decide_eq_true_eq] at hd
  exact ⟨hd.2, ((vld_iff _).1 hd.1).1⟩
theorem srcY (m : M4) (k : Nat) (hk : k < 4) : (#[.int .i64 m.a.re, .int .i64 m.a.im, .int .i64 m.a.den, .int .i64 m.b.re, .int .i64 m.b.im, .int .i64 m.b.den, .int .i64 m.c.re, .int .i64 m.c.im, .int .i64 m.c.den, .int .i64 m.d.re, .int .i64 m.d.im, .int .i64 m.d.den] : Array Value)[k * 3]? = some (.int .i64 (m.get k).re) ∧ (#[.int .i64 m.a.re, .int .i64 m.a.im, .int .i64 m.a.den, .int .i64 m.b.re, .int .i64 m.b.im, .int .i64 m.b.den, .int .i64 m.c.re, .int .i64 m.c.im, .int .i64 m.c.den, .int .i64 m.d.re, .int .i64 m.d.im, .int .i64 m.d.den] : Array Value)[k * 3 + 1]? = some (.int .i64 (m.get k).im) ∧ (#[.int .i64 m.a.re, .int .i64 m.a.im, .int .i64 m.a.den, .int .i64 m.b.re, .int .i64 m.b.im, .int .i64 m.b.den, .int .i64 m.c.re, .int .i64 m.c.im, .int .i64 m.c.den, .int .i64 m.d.re, .int .i64 m.d.im, .int .i64 m.d.den] : Array Value)[k * 3 + 2]? = some (.int .i64 (m.get k).den) := by
  have : k = 0 ∨ k = 1 ∨ k = 2 ∨ k = 3 := by omega
  rcases this with rfl | rfl | rfl | rfl <;> exact ⟨rfl, rfl, rfl⟩
set_option maxHeartbeats 1000000 in
theorem opposite_any (a : Fr) (h1 : -2000000000 ≤ a.re) (h2 : a.re ≤ 2000000000) (h3 : a.im = 0) (w : World) :
    Calls Tryd.prog 134 #[.agg #[.int .i64 a.re, .int .i64 a.im, .int .i64 a.den]] w fun e w' => e = .returned (.agg #[.int .i64 (-a.re), .int .i64 a.im, .int .i64 a.den]) ∧ Below w.heap.size w w' := by
  have H3 := Lib.hid h3
  have h4 : -2000000000 ≤ a.im := by omega
  have h5 : a.im ≤ 2000000000 := by omega
  clear h3
  go_enter Tryd.func134, Tryd.ntmps134
  go_wp2
  refine bodyPost_ret (v := .agg #[.int .i64 (-a.re), .int .i64 (-a.im), .int .i64 a.den]) (by simp [results, Tryd.results134, go_sem]) rfl ⟨by rw [H3.out]; rfl, ?_⟩
  (repeat' first | exact Below.refl _ _ | apply bl_alloc | apply bl_drewN | apply bl_drew | refine bl_trans ?_ (by assumption) | refine bl_set ?_ (by first | omega | (simp <;> omega)) _)
end Go.Proofs.YtmcokdiopcpifaaDoor
