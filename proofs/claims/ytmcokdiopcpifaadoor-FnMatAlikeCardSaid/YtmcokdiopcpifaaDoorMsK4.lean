/- What a law of two arguments keeps on its way: three boxes. -/
import Derived.Test.YtmcokdiopcpifaaDoorMsG3
import Derived.Deep.DeepCutAuto
set_option maxRecDepth 100000
namespace Go.Proofs.YtmcokdiopcpifaaDoor
open Go.RowKit Pol
theorem setCells_size (g : Nat) : ∀ (vs : List Value) (o : Nat) (w : World), (w.setCells g o vs).heap.size = w.heap.size
  | [], _, _ => rfl
  | _ :: vs, o, _ => (setCells_size g vs (o + 1) _).trans (World.size_setCell _ _ _)
theorem Room.drew' {w : World} {N n : Nat} (h : Room w N n) : Room w.drew N n := h
theorem Room.lt {w : World} {N n : Nat} (h : Room w N n) (hn : 0 < n) : N < w.heap.size := by
  obtain ⟨v, hv⟩ := Option.isSome_iff_exists.1 (h 0 (by omega)).1
  exact World.block_lt_of_cell? _ _ hv
structure Ctx (w : World) (A C B : Nat) (la lc lb : List Value) (wx : World) : Prop where
  below : Below w.heap.size w wx
  hA : A < wx.heap.size
  hC : C < wx.heap.size
  hB : B < wx.heap.size
  a : wx.rangeAt A 0 la
  c : wx.rangeAt C 0 lc
  b : wx.rangeAt B 0 lb
theorem Ctx.next {w W w' : World} {A C B : Nat} {la lc lb : List Value} (K : Ctx w A C B la lc lb W) (hb : Below W.heap.size W w') : Ctx w A C B la lc lb w' :=
  ⟨K.below.trans (hb.mono K.below.size), Nat.lt_of_lt_of_le K.hA hb.size, Nat.lt_of_lt_of_le K.hC hb.size, Nat.lt_of_lt_of_le K.hB hb.size, rangeAt_below K.a hb K.hA, rangeAt_below K.c hb K.hC, rangeAt_below K.b hb K.hB⟩
theorem Ctx.alloc {w W : World} {A C B : Nat} {la lc lb : List Value} (K : Ctx w A C B la lc lb W) (z : Obj) : Ctx w A C B la lc lb (W.alloc z) := K.next ((Below.refl _ _).alloc (Nat.le_refl _) z)
theorem Ctx.drew {w W : World} {A C B : Nat} {la lc lb : List Value} (K : Ctx w A C B la lc lb W) : Ctx w A C B la lc lb W.drew := K.next (Below.refl _ _).drew
theorem Ctx.store {w W : World} {A C B : Nat} {la lc lb : List Value} (K : Ctx w A C B la lc lb W) {D : Nat} (h1 : A ≠ D) (h2 : C ≠ D) (h3 : B ≠ D) (h4 : w.heap.size ≤ D) (vs : List Value) : Ctx w A C B la lc lb (W.setCells D 0 vs) :=
  have hs : (W.setCells D 0 vs).heap.size = W.heap.size := setCells_size _ _ _ _
  ⟨setCells_below _ _ _ K.below h4, by rw [hs]; exact K.hA, by rw [hs]; exact K.hC, by rw [hs]; exact K.hB, World.rangeAt_setCells_apart K.a D 0 vs (Or.inl h1), World.rangeAt_setCells_apart K.c D 0 vs (Or.inl h2), World.rangeAt_setCells_apart K.b D 0 vs (Or.inl h3)⟩
end Go.Proofs.YtmcokdiopcpifaaDoor
