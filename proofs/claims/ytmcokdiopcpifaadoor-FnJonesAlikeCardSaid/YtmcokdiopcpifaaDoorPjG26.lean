/- What a walk keeps through a region that draws: boxes by their cells, and the room of the result. -/
import Derived.Test.YtmcokdiopcpifaaDoorPjG19
import Derived.Deep.DeepCutAuto
import Derived.Deep.RegionHeld3
import Derived.BigQuiet
import Derived.Test.YtmcokdiopcpifaaDoorPjQS
import Derived.Test.YtmcokdiopcpifaaDoorPjG8
import Derived.Test.YtmcokdiopcpifaaDoorPjL
import Derived.Test.YtmcokdiopcpifaaDoorPjG12
import Derived.Test.YtmcokdiopcpifaaDoorPjS3
import Derived.Test.YtmcokdiopcpifaaDoorPjAB
set_option maxRecDepth 100000
namespace Go.Proofs.YtmcokdiopcpifaaDoor
open Go.RowKit Pol
theorem setCells_size2 (g : Nat) : ∀ (vs : List Value) (o : Nat) (w : World), (w.setCells g o vs).heap.size = w.heap.size
  | [], _, _ => rfl
  | _ :: vs, o, _ => (setCells_size2 g vs (o + 1) _).trans (World.size_setCell _ _ _)
theorem Room.setsF {X n : Nat} (b : Nat) : ∀ (vs : List Value) (o : Nat) {w : World}, Room w X n → Room (w.setCells b o vs) X n
  | [], _, _, h => h
  | v :: vs, o, _, h => Room.setsF b vs (o + 1) (h.set ⟨b, o, none⟩ v)
theorem Room.ltF {w : World} {N n : Nat} (h : Room w N n) (hn : 0 < n) : N < w.heap.size := by
  obtain ⟨v, hv⟩ := Option.isSome_iff_exists.1 (h 0 (by omega)).1
  exact World.block_lt_of_cell? _ _ hv
structure BX (w : World) (R nz : Nat) (L : List (Nat × List Value)) (W : World) : Prop where
  below : Below w.heap.size w W
  hR : R < W.heap.size ∨ nz = 0
  room : Room W R nz
  box : ∀ e ∈ L, e.1 < W.heap.size ∧ W.rangeAt e.1 0 e.2
theorem BX.next {w W W' : World} {R nz : Nat} {L : List (Nat × List Value)} (K : BX w R nz L W) (hb : Below W.heap.size W W') : BX w R nz L W' :=
  ⟨K.below.trans (hb.mono K.below.size), K.hR.imp (fun h => Nat.lt_of_lt_of_le h hb.size) id, by
    rcases K.hR with h | h
    · exact K.room.below hb h
    · subst h; exact fun j hj => absurd hj (Nat.not_lt_zero _), fun e he => ⟨Nat.lt_of_lt_of_le (K.box e he).1 hb.size, rangeAt_below (K.box e he).2 hb (K.box e he).1⟩⟩
theorem BX.alloc {w W : World} {R nz : Nat} {L : List (Nat × List Value)} (K : BX w R nz L W) (z : Obj) : BX w R nz L (W.alloc z) := K.next ((Below.refl _ _).alloc (Nat.le_refl _) z)
theorem BX.drew {w W : World} {R nz : Nat} {L : List (Nat × List Value)} (K : BX w R nz L W) : BX w R nz L W.drew := K.next (Below.refl _ _).drew
theorem BX.store {w W : World} {R nz : Nat} {L : List (Nat × List Value)} (K : BX w R nz L W) {D : Nat} (h2 : ∀ e ∈ L, e.1 ≠ D) (h4 : w.heap.size ≤ D) (vs : List Value) : BX w R nz L (W.setCells D 0 vs) :=
  have hs : (W.setCells D 0 vs).heap.size = W.heap.size := setCells_size2 _ _ _ _
  ⟨setCells_below _ _ _ K.below h4, by rw [hs]; exact K.hR, K.room.setsF _ _ _, fun e he => ⟨by rw [hs]; exact (K.box e he).1, World.rangeAt_setCells_apart (K.box e he).2 D 0 vs (Or.inl (h2 e he))⟩⟩
theorem BX.add {w W : World} {R nz : Nat} {L : List (Nat × List Value)} (K : BX w R nz L W) {D : Nat} {l : List Value} (hD : D < W.heap.size) (hr : W.rangeAt D 0 l) : BX w R nz ((D, l) :: L) W :=
  ⟨K.below, K.hR, K.room, fun e he => by
    rcases List.mem_cons.1 he with rfl | he
    · exact ⟨hD, hr⟩
    · exact K.box e he⟩
theorem BX.nil {w W : World} {R nz : Nat} (h : Below w.heap.size w W) (hR : R < W.heap.size ∨ nz = 0) (r : Room W R nz) : BX w R nz [] W := ⟨h, hR, r, fun e he => by cases he⟩
theorem cellsF {w : World} {N : Nat} {v0 v1 v2 : Value} (h : w.rangeAt N 0 [v0, v1, v2]) : w.cell? ⟨N, 0, none⟩ = some v0 ∧ w.cell? ⟨N, 1, none⟩ = some v1 ∧ w.cell? ⟨N, 2, none⟩ = some v2 :=
  ⟨by have := h 0 _ rfl; rwa [Nat.zero_add] at this, by have := h 1 _ rfl; rwa [Nat.zero_add] at this, by have := h 2 _ rfl; rwa [Nat.zero_add] at this⟩
theorem cellsJ {w : World} {N : Nat} {v0 v1 v2 v3 v4 v5 : Value} (h : w.rangeAt N 0 [v0, v1, v2, v3, v4, v5]) : w.cell? ⟨N, 0, none⟩ = some v0 ∧ w.cell? ⟨N, 1, none⟩ = some v1 ∧ w.cell? ⟨N, 2, none⟩ = some v2 ∧ w.cell? ⟨N, 3, none⟩ = some v3 ∧ w.cell? ⟨N, 4, none⟩ = some v4 ∧ w.cell? ⟨N, 5, none⟩ = some v5 :=
  ⟨by have := h 0 _ rfl; rwa [Nat.zero_add] at this, by have := h 1 _ rfl; rwa [Nat.zero_add] at this, by have := h 2 _ rfl; rwa [Nat.zero_add] at this, by have := h 3 _ rfl; rwa [Nat.zero_add] at this, by have := h 4 _ rfl; rwa [Nat.zero_add] at this, by have := h 5 _ rfl; rwa [Nat.zero_add] at this⟩
end Go.Proofs.YtmcokdiopcpifaaDoor
namespace Go.Proofs.YtmcokdiopcpifaaDoor
open Go.RowKit Pol
/-- Are the parts small, up to place n? -/
def smT (u t : M4) (k : Nat) : Bool := decide ((u.get k).re < 10000 ∧ (-10000 : Int) < (u.get k).re ∧ (t.get k).re < 10000 ∧ (-10000 : Int) < (t.get k).re ∧ (u.get k).den < 10000 ∧ (t.get k).den < 10000)
def smB (u t : M4) : Nat → Bool
  | 0 => true
  | k + 1 => smB u t k && smT u t k
theorem smB_no {u t : M4} {k : Nat} (h : smB u t k = false) : smB u t (k + 1) = false := by show (smB u t k && _) = false; rw [h]; rfl
theorem smB_bad {u t : M4} {k : Nat} (h : ¬ ((u.get k).re < 10000 ∧ (-10000 : Int) < (u.get k).re ∧ (t.get k).re < 10000 ∧ (-10000 : Int) < (t.get k).re ∧ (u.get k).den < 10000 ∧ (t.get k).den < 10000)) : smB u t (k + 1) = false := by
  show (_ && smT u t k) = false
  have : smT u t k = false := decide_eq_false h
  rw [this]; simp
theorem smB_yes {u t : M4} {k : Nat} (h : smB u t k = true) (h2 : (u.get k).re < 10000 ∧ (-10000 : Int) < (u.get k).re ∧ (t.get k).re < 10000 ∧ (-10000 : Int) < (t.get k).re ∧ (u.get k).den < 10000 ∧ (t.get k).den < 10000) : smB u t (k + 1) = true := by
  show (smB u t k && smT u t k) = true
  rw [h, show smT u t k = true from decide_eq_true h2]; rfl
theorem smB_all {u t : M4} : ∀ {n : Nat}, smB u t n = true → ∀ k, k < n → smR (u.get k) = true ∧ smR (t.get k) = true
  | 0, _, k, hk => absurd hk (by omega)
  | n + 1, h, k, hk => by
    have h' : (smB u t n && smT u t n) = true := h
    rw [Bool.and_eq_true] at h'
    by_cases e : k = n
    · subst e
      obtain ⟨x1, x2, x3, x4, x5, x6⟩ := of_decide_eq_true h'.2
      exact ⟨decide_eq_true ⟨x2, x1, x5⟩, decide_eq_true ⟨x4, x3, x6⟩⟩
    · exact smB_all h'.1 k (by omega)
theorem sbox_of4 {W : World} {X : Nat} {m : M4} (h : W.rangeAt X 0 [.int .i64 m.a.re, .int .i64 m.a.im, .int .i64 m.a.den, .int .i64 m.b.re, .int .i64 m.b.im, .int .i64 m.b.den, .int .i64 m.c.re, .int .i64 m.c.im, .int .i64 m.c.den, .int .i64 m.d.re, .int .i64 m.d.im, .int .i64 m.d.den]) : BoxAt W X m.get 4 := fun k hk => by
  have e : k = 0 ∨ k = 1 ∨ k = 2 ∨ k = 3 := by omega
  rcases e with rfl | rfl | rfl | rfl
  · exact ⟨by have := h 0 _ rfl; rwa [Nat.zero_add] at this, by have := h 1 _ rfl; rwa [Nat.zero_add] at this, by have := h 2 _ rfl; rwa [Nat.zero_add] at this⟩
  · exact ⟨by have := h 3 _ rfl; rwa [Nat.zero_add] at this, by have := h 4 _ rfl; rwa [Nat.zero_add] at this, by have := h 5 _ rfl; rwa [Nat.zero_add] at this⟩
  · exact ⟨by have := h 6 _ rfl; rwa [Nat.zero_add] at this, by have := h 7 _ rfl; rwa [Nat.zero_add] at this, by have := h 8 _ rfl; rwa [Nat.zero_add] at this⟩
  · exact ⟨by have := h 9 _ rfl; rwa [Nat.zero_add] at this, by have := h 10 _ rfl; rwa [Nat.zero_add] at this, by have := h 11 _ rfl; rwa [Nat.zero_add] at this⟩
end Go.Proofs.YtmcokdiopcpifaaDoor
namespace Go.Proofs.YtmcokdiopcpifaaDoor
open Go.RowKit Pol
theorem setCells_size (g : Nat) : ∀ (vs : List Value) (o : Nat) (w : World), (w.setCells g o vs).heap.size = w.heap.size
  | [], _, _ => rfl
  | _ :: vs, o, _ => (setCells_size g vs (o + 1) _).trans (World.size_setCell _ _ _)
theorem Room.lt {w : World} {N n : Nat} (h : Room w N n) (hn : 0 < n) : N < w.heap.size := by
  obtain ⟨v, hv⟩ := Option.isSome_iff_exists.1 (h 0 (by omega)).1
  exact World.block_lt_of_cell? _ _ hv
structure Ctx (w : World) (A C B : Nat) (la lc lb : List Value) (wx : World) : Prop where
  below : Below w.heap.size w wx
  hA : A < wx.heap.size
  hC : C < wx.heap.size
  hB : B < wx.heap.size
  a : wx.rangeAt A 0 la
  c : wx.rangeAt C 0 lc
  b : wx.rangeAt B 0 lb
theorem Ctx.next {w W w' : World} {A C B : Nat} {la lc lb : List Value} (K : Ctx w A C B la lc lb W) (hb : Below W.heap.size W w') : Ctx w A C B la lc lb w' :=
  ⟨K.below.trans (hb.mono K.below.size), Nat.lt_of_lt_of_le K.hA hb.size, Nat.lt_of_lt_of_le K.hC hb.size, Nat.lt_of_lt_of_le K.hB hb.size, rangeAt_below K.a hb K.hA, rangeAt_below K.c hb K.hC, rangeAt_below K.b hb K.hB⟩
theorem Ctx.alloc {w W : World} {A C B : Nat} {la lc lb : List Value} (K : Ctx w A C B la lc lb W) (z : Obj) : Ctx w A C B la lc lb (W.alloc z) := K.next ((Below.refl _ _).alloc (Nat.le_refl _) z)
theorem Ctx.drew {w W : World} {A C B : Nat} {la lc lb : List Value} (K : Ctx w A C B la lc lb W) : Ctx w A C B la lc lb W.drew := K.next (Below.refl _ _).drew
theorem Ctx.store {w W : World} {A C B : Nat} {la lc lb : List Value} (K : Ctx w A C B la lc lb W) {D : Nat} (h1 : A ≠ D) (h2 : C ≠ D) (h3 : B ≠ D) (h4 : w.heap.size ≤ D) (vs : List Value) : Ctx w A C B la lc lb (W.setCells D 0 vs) :=
  have hs : (W.setCells D 0 vs).heap.size = W.heap.size := setCells_size _ _ _ _
  ⟨setCells_below _ _ _ K.below h4, by rw [hs]; exact K.hA, by rw [hs]; exact K.hC, by rw [hs]; exact K.hB, World.rangeAt_setCells_apart K.a D 0 vs (Or.inl h1), World.rangeAt_setCells_apart K.c D 0 vs (Or.inl h2), World.rangeAt_setCells_apart K.b D 0 vs (Or.inl h3)⟩
end Go.Proofs.YtmcokdiopcpifaaDoor
namespace Go.Proofs.YtmcokdiopcpifaaDoor
open Go.RowKit Pol
/-- Where the two loops stand. -/
structure ARel (W : World) (A B : Nat) (a b : M4) (i k : Nat) (wr : World) : Prop where
  le : i ≤ 4
  lk : k ≤ i
  below : Below W.heap.size W wr
  hA : A < wr.heap.size
  hB : B < wr.heap.size
  one : BoxAt wr A a.get 4
  two : BoxAt wr B b.get 4
  good : ∀ p q, q < p → (p < i ∨ (p = i ∧ q < k)) → gpB a b p q = true
theorem ARel.next {W wr w1 : World} {A B : Nat} {a b : M4} {i k : Nat} (h : ARel W A B a b i k wr) (hb : Below wr.heap.size wr w1) : ARel W A B a b i k w1 :=
  ⟨h.le, h.lk, h.below.trans (hb.mono h.below.size), Nat.lt_of_lt_of_le h.hA hb.size, Nat.lt_of_lt_of_le h.hB hb.size, h.one.below hb h.hA, h.two.below hb h.hB, h.good⟩
theorem ARel.alloc {W wr : World} {A B : Nat} {a b : M4} {i k : Nat} (h : ARel W A B a b i k wr) (x : Obj) : ARel W A B a b i k (wr.alloc x) := h.next ((Below.refl _ _).alloc (Nat.le_refl _) x)
theorem ARel.drew {W wr : World} {A B : Nat} {a b : M4} {i k : Nat} (h : ARel W A B a b i k wr) : ARel W A B a b i k wr.drew := h.next (Below.refl _ _).drew
theorem ARel.step {W wr : World} {A B : Nat} {a b : M4} {i k : Nat} (h : ARel W A B a b i k wr) (hk : k < i) (hg : gpB a b i k = true) : ARel W A B a b i (k + 1) wr :=
  ⟨h.le, hk, h.below, h.hA, h.hB, h.one, h.two, fun p q hq hp => by
    rcases hp with hp | ⟨rfl, hp⟩
    · exact h.good p q hq (Or.inl hp)
    · rcases Nat.lt_or_ge q k with h1 | h1
      · exact h.good p q hq (Or.inr ⟨rfl, h1⟩)
      · obtain rfl : q = k := by omega
        exact hg⟩
theorem ARel.row {W wr : World} {A B : Nat} {a b : M4} {i : Nat} (h : ARel W A B a b i i wr) (hi : i < 4) : ARel W A B a b (i + 1) 0 wr :=
  ⟨hi, Nat.zero_le _, h.below, h.hA, h.hB, h.one, h.two, fun p q hq hp => by
    rcases hp with hp | ⟨_, hp⟩
    · rcases Nat.lt_or_ge p i with h1 | h1
      · exact h.good p q hq (Or.inl h1)
      · obtain rfl : p = i := by omega
        exact h.good p q hq (Or.inr ⟨rfl, hq⟩)
    · omega⟩
end Go.Proofs.YtmcokdiopcpifaaDoor
