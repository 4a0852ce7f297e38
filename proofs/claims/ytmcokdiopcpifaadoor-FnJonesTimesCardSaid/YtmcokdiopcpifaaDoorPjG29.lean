/- What a reckoning keeps on its way where no result has a room: its own Bool in block P, and boxes of fractions below B. -/
import Derived.Test.YtmcokdiopcpifaaDoorPjSG
import Derived.Test.YtmcokdiopcpifaaDoorPjG26
import Derived.Test.YtmcokdiopcpifaaDoorPjL
set_option maxRecDepth 100000
namespace Go.Proofs.YtmcokdiopcpifaaDoor
open Go.RowKit Pol
structure CN (w : World) (P : Nat) (v : Bool) (B : Nat) (L : List (Nat × Nat × (Nat → Fr))) (W : World) : Prop where
  below : Below w.heap.size w W
  lo : w.heap.size ≤ P
  hP : P < B
  hB : B ≤ W.heap.size
  cell : W.cell? ⟨P, 0, none⟩ = some (.bool v)
  free : W.frozen? ⟨P, 0, none⟩ = false
  box : ∀ e ∈ L, e.1 < B ∧ e.1 ≠ P ∧ BoxAt W e.1 e.2.2 e.2.1
section
variable {w W W' : World} {P B : Nat} {v u : Bool} {L : List (Nat × Nat × (Nat → Fr))}
theorem CN.next (K : CN w P v B L W) (hb : Below W.heap.size W W') : CN w P v B L W' :=
  have h1 := K.hP
  have h2 := K.hB
  ⟨K.below.trans (hb.mono K.below.size), K.lo, K.hP, Nat.le_trans K.hB hb.size, (hb.cell (p := ⟨P, 0, none⟩) (by show P < _; omega)).trans K.cell, (hb.frozen (p := ⟨P, 0, none⟩) (by show P < _; omega)).trans K.free, fun e he => by
    obtain ⟨k1, k2, k3⟩ := K.box e he
    exact ⟨k1, k2, k3.below hb (by omega)⟩⟩
theorem CN.alloc (K : CN w P v B L W) (o : Obj) : CN w P v B L (W.alloc o) := K.next ((Below.refl _ _).alloc (Nat.le_refl _) o)
theorem CN.drew (K : CN w P v B L W) : CN w P v B L W.drew := K.next (Below.refl _ _).drew
theorem CN.sm (K : CN w P v B L W) (hs : Sm P u W W') : CN w P u B L W' :=
  have h1 := K.hP
  have h2 := K.hB
  ⟨hs.own K.below K.lo, K.lo, K.hP, Nat.le_trans K.hB hs.size, hs.cell, hs.free, fun e he => by
    obtain ⟨k1, k2, k3⟩ := K.box e he
    exact ⟨k1, k2, k3.sm hs (by omega) k2⟩⟩
theorem CN.set (K : CN w P v B L W) {D o : Nat} (hD : B ≤ D) (x : Value) : CN w P v B L (W.setCell ⟨D, o, none⟩ x) :=
  have h1 := K.hP
  have h2 := K.lo
  ⟨K.below.setCell (by show _ ≤ D; omega) _, K.lo, K.hP, by rw [World.size_setCell]; exact K.hB, (World.cell?_setCell_far _ _ _ _ (by show D ≠ P; omega)).trans K.cell, by rw [World.frozen?_setCell]; exact K.free, fun e he => by
    obtain ⟨k1, k2, k3⟩ := K.box e he
    exact ⟨k1, k2, k3.far (by omega)⟩⟩
theorem CN.more2 (K : CN w P v B L W) {X Y n m : Nat} {g h : Nat → Fr} (hX : B ≤ X) (hX2 : X < W.heap.size) (hb : BoxAt W X g n) (hY : B ≤ Y) (hY2 : Y < W.heap.size) (hc : BoxAt W Y h m) : CN w P v W.heap.size ((X, n, g) :: (Y, m, h) :: L) W :=
  have h1 := K.hP
  have h3 := K.hB
  ⟨K.below, K.lo, by omega, Nat.le_refl _, K.cell, K.free, fun e he => by
    rcases List.mem_cons.1 he with rfl | he
    · exact ⟨hX2, by show X ≠ P; omega, hb⟩
    rcases List.mem_cons.1 he with rfl | he
    · exact ⟨hY2, by show Y ≠ P; omega, hc⟩
    · obtain ⟨k1, k2, k3⟩ := K.box e he
      exact ⟨by omega, k2, k3⟩⟩
end
theorem CN.jj {w W : World} {P B : Nat} {v : Bool} {L : List (Nat × Nat × (Nat → Fr))} {A C : Nat} {a b : J2} (hm : (A, 2, j2k a) ∈ L) (hn : (C, 2, j2k b) ∈ L) (K : CN w P v B L W) : (W.cell? ⟨A, 0, none⟩ = some (.int .i64 a.x.re) ∧ W.cell? ⟨A, 1, none⟩ = some (.int .i64 a.x.im) ∧ W.cell? ⟨A, 2, none⟩ = some (.int .i64 a.x.den) ∧ W.cell? ⟨A, 3, none⟩ = some (.int .i64 a.y.re) ∧ W.cell? ⟨A, 4, none⟩ = some (.int .i64 a.y.im) ∧ W.cell? ⟨A, 5, none⟩ = some (.int .i64 a.y.den)) ∧ (W.cell? ⟨C, 0, none⟩ = some (.int .i64 b.x.re) ∧ W.cell? ⟨C, 1, none⟩ = some (.int .i64 b.x.im) ∧ W.cell? ⟨C, 2, none⟩ = some (.int .i64 b.x.den) ∧ W.cell? ⟨C, 3, none⟩ = some (.int .i64 b.y.re) ∧ W.cell? ⟨C, 4, none⟩ = some (.int .i64 b.y.im) ∧ W.cell? ⟨C, 5, none⟩ = some (.int .i64 b.y.den)) := ⟨(K.box _ hm).2.2.j6, (K.box _ hn).2.2.j6⟩
theorem cn_call {w W : World} {P B : Nat} {v : Bool} {L : List (Nat × Nat × (Nat → Fr))} {f : Nat} {args : Array Value} {g : Fr × Bool} (K : CN w P v B L W) (c : P < W.heap.size → W.cell? ⟨P, 0, none⟩ = some (.bool v) → W.frozen? ⟨P, 0, none⟩ = false → Calls Tryd.prog f args W (SmOut P v g W)) :
    Calls Tryd.prog f args W (fun e w' => e = .returned (.agg #[.int .i64 g.1.re, .int .i64 g.1.im, .int .i64 g.1.den]) ∧ Sm P (v || !g.2) W w' ∧ CN w P (v || !g.2) B L w') :=
  (c (Nat.lt_of_lt_of_le K.hP K.hB) K.cell K.free).mono fun _ _ h => ⟨h.fn.1, h.fn.2, K.sm h.fn.2⟩
end Go.Proofs.YtmcokdiopcpifaaDoor
namespace Go.Proofs.YtmcokdiopcpifaaDoor
open Go.RowKit Pol
theorem rangeOf1 {W : World} {X : Nat} {f : Nat → Fr} (h : BoxAt W X f 1) : W.rangeAt X 0 [.int .i64 (f 0).re, .int .i64 (f 0).im, .int .i64 (f 0).den] := by
  obtain ⟨a0, a1, a2⟩ := h 0 (by omega)
  intro j v hv
  rw [Nat.zero_add]
  match j, hv with
  | 0, hv => obtain rfl := Option.some.inj hv; exact a0
  | 1, hv => obtain rfl := Option.some.inj hv; exact a1
  | 2, hv => obtain rfl := Option.some.inj hv; exact a2
  | n + 3, hv => simp at hv
end Go.Proofs.YtmcokdiopcpifaaDoor
