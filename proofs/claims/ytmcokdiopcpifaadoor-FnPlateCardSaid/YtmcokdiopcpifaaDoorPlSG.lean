/- Contracts: the four numbers of a vector, the program's side. -/
import Derived.Test.YtmcokdiopcpifaaDoorPlG4
import Derived.Test.YtmcokdiopcpifaaDoorPlJ
import Derived.Test.YtmcokdiopcpifaaDoorPlG9
import Derived.Test.YtmcokdiopcpifaaDoorPlZ
import Derived.Deep.RegionLaw
import Derived.Deep.DeepCutAuto
set_option maxRecDepth 100000
namespace Go.Proofs.YtmcokdiopcpifaaDoor
open Go.RowKit Pol
def j2k (a : J2) (k : Nat) : Fr := if k = 0 then a.x else a.y
theorem BoxAt.c3 {W : World} {X n : Nat} {g : Nat → Fr} (h : BoxAt W X g n) (k : Nat) (hk : k < n) : W.cell? ⟨X, k * 3, none⟩ = some (.int .i64 (g k).re) ∧ W.cell? ⟨X, k * 3 + 1, none⟩ = some (.int .i64 (g k).im) ∧ W.cell? ⟨X, k * 3 + 2, none⟩ = some (.int .i64 (g k).den) := h k hk
theorem BoxAt.j6 {W : World} {X : Nat} {a : J2} (h : BoxAt W X (j2k a) 2) : W.cell? ⟨X, 0, none⟩ = some (.int .i64 a.x.re) ∧ W.cell? ⟨X, 1, none⟩ = some (.int .i64 a.x.im) ∧ W.cell? ⟨X, 2, none⟩ = some (.int .i64 a.x.den) ∧ W.cell? ⟨X, 3, none⟩ = some (.int .i64 a.y.re) ∧ W.cell? ⟨X, 4, none⟩ = some (.int .i64 a.y.im) ∧ W.cell? ⟨X, 5, none⟩ = some (.int .i64 a.y.den) :=
  ⟨(h 0 (by omega)).1, (h 0 (by omega)).2.1, (h 0 (by omega)).2.2, (h 1 (by omega)).1, (h 1 (by omega)).2.1, (h 1 (by omega)).2.2⟩
theorem BoxAt.f3 {W : World} {X : Nat} {f : Fr} (h : BoxAt W X (fun _ => f) 1) : W.cell? ⟨X, 0, none⟩ = some (.int .i64 f.re) ∧ W.cell? ⟨X, 1, none⟩ = some (.int .i64 f.im) ∧ W.cell? ⟨X, 2, none⟩ = some (.int .i64 f.den) := h 0 (by omega)
/-- What a reckoning keeps on its way: its own Bool in block P, the result's room R, and boxes of fractions below B. -/
structure CK (w : World) (P R nz : Nat) (v : Bool) (B : Nat) (L : List (Nat × Nat × (Nat → Fr))) (W : World) : Prop where
  below : Below w.heap.size w W
  lo : w.heap.size ≤ P
  hP : P < B
  hR : R < B
  nR : R ≠ P
  lR : w.heap.size ≤ R
  hB : B ≤ W.heap.size
  cell : W.cell? ⟨P, 0, none⟩ = some (.bool v)
  free : W.frozen? ⟨P, 0, none⟩ = false
  room : Room W R nz
  box : ∀ e ∈ L, e.1 < B ∧ (e.1 ≠ P ∧ e.1 ≠ R) ∧ BoxAt W e.1 e.2.2 e.2.1
theorem CK.next {w W W' : World} {P R nz B : Nat} {v : Bool} {L : List (Nat × Nat × (Nat → Fr))} (K : CK w P R nz v B L W) (hb : Below W.heap.size W W') : CK w P R nz v B L W' :=
  have h1 := K.hP
  have h2 := K.hB
  have h3 := K.hR
  ⟨K.below.trans (hb.mono K.below.size), K.lo, K.hP, K.hR, K.nR, K.lR, Nat.le_trans K.hB hb.size, (hb.cell (p := ⟨P, 0, none⟩) (by show P < _; omega)).trans K.cell, (hb.frozen (p := ⟨P, 0, none⟩) (by show P < _; omega)).trans K.free, K.room.below hb (by omega), fun e he => by
    obtain ⟨k1, k2, k3⟩ := K.box e he
    exact ⟨k1, k2, k3.below hb (by omega)⟩⟩
theorem CK.alloc {w W : World} {P R nz B : Nat} {v : Bool} {L : List (Nat × Nat × (Nat → Fr))} (K : CK w P R nz v B L W) (o : Obj) : CK w P R nz v B L (W.alloc o) := K.next ((Below.refl _ _).alloc (Nat.le_refl _) o)
theorem CK.drew {w W : World} {P R nz B : Nat} {v : Bool} {L : List (Nat × Nat × (Nat → Fr))} (K : CK w P R nz v B L W) : CK w P R nz v B L W.drew := K.next (Below.refl _ _).drew
theorem CK.sm {w W W' : World} {P R nz B : Nat} {v u : Bool} {L : List (Nat × Nat × (Nat → Fr))} (K : CK w P R nz v B L W) (hs : Sm P u W W') : CK w P R nz u B L W' :=
  have h1 := K.hP
  have h2 := K.hB
  have h3 := K.hR
  ⟨hs.own K.below K.lo, K.lo, K.hP, K.hR, K.nR, K.lR, Nat.le_trans K.hB hs.size, hs.cell, hs.free, K.room.sm hs (by omega) K.nR, fun e he => by
    obtain ⟨k1, k2, k3⟩ := K.box e he
    exact ⟨k1, k2, k3.sm hs (by omega) k2.1⟩⟩
theorem BoxAt.far {W : World} {X D o n : Nat} {g : Nat → Fr} {x : Value} (h : BoxAt W X g n) (hne : X ≠ D) : BoxAt (W.setCell ⟨D, o, none⟩ x) X g n := fun k hk => by
  have hh : ∀ q, (W.setCell ⟨D, o, none⟩ x).cell? ⟨X, q, none⟩ = W.cell? ⟨X, q, none⟩ := fun q => World.cell?_setCell_far _ _ _ _ (by show D ≠ X; omega)
  rw [hh, hh, hh]; exact h k hk
theorem CK.set {w W : World} {P R nz B : Nat} {v : Bool} {L : List (Nat × Nat × (Nat → Fr))} (K : CK w P R nz v B L W) {D o : Nat} (hD : B ≤ D) (x : Value) : CK w P R nz v B L (W.setCell ⟨D, o, none⟩ x) :=
  have h1 := K.hP
  have h2 := K.lo
  ⟨K.below.setCell (by show _ ≤ D; omega) _, K.lo, K.hP, K.hR, K.nR, K.lR, by rw [World.size_setCell]; exact K.hB, (World.cell?_setCell_far _ _ _ _ (by show D ≠ P; omega)).trans K.cell, by rw [World.frozen?_setCell]; exact K.free, K.room.set _ _, fun e he => by
    obtain ⟨k1, k2, k3⟩ := K.box e he
    exact ⟨k1, k2, k3.far (by omega)⟩⟩
theorem CK.setR {w W : World} {P R nz B : Nat} {v : Bool} {L : List (Nat × Nat × (Nat → Fr))} (K : CK w P R nz v B L W) {o : Nat} (x : Value) : CK w P R nz v B L (W.setCell ⟨R, o, none⟩ x) :=
  have h1 := K.nR
  ⟨K.below.setCell (by show _ ≤ R; exact K.lR) _, K.lo, K.hP, K.hR, K.nR, K.lR, by rw [World.size_setCell]; exact K.hB, (World.cell?_setCell_far _ _ _ _ (by show R ≠ P; exact h1)).trans K.cell, by rw [World.frozen?_setCell]; exact K.free, K.room.set _ _, fun e he => by
    obtain ⟨k1, k2, k3⟩ := K.box e he
    exact ⟨k1, k2, k3.far k2.2⟩⟩
theorem CK.j {w W : World} {P R nz B : Nat} {v : Bool} {L : List (Nat × Nat × (Nat → Fr))} {A : Nat} {a : J2} (hm : (A, 2, j2k a) ∈ L) (K : CK w P R nz v B L W) : W.cell? ⟨A, 0, none⟩ = some (.int .i64 a.x.re) ∧ W.cell? ⟨A, 1, none⟩ = some (.int .i64 a.x.im) ∧ W.cell? ⟨A, 2, none⟩ = some (.int .i64 a.x.den) ∧ W.cell? ⟨A, 3, none⟩ = some (.int .i64 a.y.re) ∧ W.cell? ⟨A, 4, none⟩ = some (.int .i64 a.y.im) ∧ W.cell? ⟨A, 5, none⟩ = some (.int .i64 a.y.den) := (K.box _ hm).2.2.j6
theorem CK.q4 {w W : World} {P R nz B : Nat} {v : Bool} {L : List (Nat × Nat × (Nat → Fr))} {X Y T D : Nat} {x y t d : Fr} (K : CK w P R nz v B ((D, 1, fun _ => d) :: (T, 1, fun _ => t) :: (X, 1, fun _ => x) :: (Y, 1, fun _ => y) :: L) W) :
    (W.cell? ⟨X, 0, none⟩ = some (.int .i64 x.re) ∧ W.cell? ⟨X, 1, none⟩ = some (.int .i64 x.im) ∧ W.cell? ⟨X, 2, none⟩ = some (.int .i64 x.den)) ∧ (W.cell? ⟨Y, 0, none⟩ = some (.int .i64 y.re) ∧ W.cell? ⟨Y, 1, none⟩ = some (.int .i64 y.im) ∧ W.cell? ⟨Y, 2, none⟩ = some (.int .i64 y.den)) ∧ (W.cell? ⟨T, 0, none⟩ = some (.int .i64 t.re) ∧ W.cell? ⟨T, 1, none⟩ = some (.int .i64 t.im) ∧ W.cell? ⟨T, 2, none⟩ = some (.int .i64 t.den)) ∧ (W.cell? ⟨D, 0, none⟩ = some (.int .i64 d.re) ∧ W.cell? ⟨D, 1, none⟩ = some (.int .i64 d.im) ∧ W.cell? ⟨D, 2, none⟩ = some (.int .i64 d.den)) :=
  ⟨(K.box (X, 1, fun _ => x) (by simp)).2.2.f3, (K.box (Y, 1, fun _ => y) (by simp)).2.2.f3, (K.box (T, 1, fun _ => t) (by simp)).2.2.f3, (K.box (D, 1, fun _ => d) (by simp)).2.2.f3⟩
theorem Sm.out2 {b : Nat} {v : Bool} {W w1 : World} (hs : Sm b v W w1) : ∃ B, B = W.heap.size ∧ (∀ k, k < B → k ≠ b → ∀ o, w1.cell? ⟨k, o, none⟩ = W.cell? ⟨k, o, none⟩) ∧ (∀ k, k < B → k ≠ b → ∀ o, w1.frozen? ⟨k, o, none⟩ = W.frozen? ⟨k, o, none⟩) :=
  ⟨_, rfl, fun k hk hn o => hs.atc k hk hn o, fun k hk hn o => hs.atf k hk hn o⟩
theorem ck_call {w W : World} {P R nz B : Nat} {v : Bool} {L : List (Nat × Nat × (Nat → Fr))} {f : Nat} {args : Array Value} {g : Fr × Bool} (K : CK w P R nz v B L W) (c : P < W.heap.size → W.cell? ⟨P, 0, none⟩ = some (.bool v) → W.frozen? ⟨P, 0, none⟩ = false → Calls Tryd.prog f args W (SmOut P v g W)) :
    Calls Tryd.prog f args W (fun e w' => e = .returned (.agg #[.int .i64 g.1.re, .int .i64 g.1.im, .int .i64 g.1.den]) ∧ Sm P (v || !g.2) W w' ∧ CK w P R nz (v || !g.2) B L w') :=
  (c (Nat.lt_of_lt_of_le K.hP K.hB) K.cell K.free).mono fun _ _ h => ⟨h.fn.1, h.fn.2, K.sm h.fn.2⟩
end Go.Proofs.YtmcokdiopcpifaaDoor
