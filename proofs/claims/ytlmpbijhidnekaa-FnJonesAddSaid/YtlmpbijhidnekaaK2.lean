/- Contracts: loops of the reference over four numbers. -/
import Derived.Test.YtlmpbijhidnekaaK
namespace Go.Proofs.Ytlmpbijhidnekaa
open Go.RowKit Pol

/-- Where the reference's loop stands: k places are done, and none was none. -/
structure SRel (W : World) (A B R O : Nat) (ga gb : Nat → Fr) (nb : Nat) (f : Nat → Fr × Bool) (k : Nat) (wr : World) : Prop where
  le : k ≤ 4
  below : Below W.heap.size W wr
  size : O + 1 ≤ wr.heap.size
  one : BoxAt wr A ga 4
  two : BoxAt wr B gb nb
  res : Room wr R 4
  room : Room wr O 4
  out : BoxAt wr O (fun i => (f i).1) k
  good : ∀ j, j < k → (f j).2 = true
def SR (W : World) (A B R O : Nat) (ga gb : Nat → Fr) (nb : Nat) (f : Nat → Fr × Bool) (i : Value) (wr : World) : Prop := ∃ k : Nat, i = .int .i64 k ∧ SRel W A B R O ga gb nb f k wr
structure Ord2 (W : World) (A B R O : Nat) : Prop where
  hA : A < O
  hB : B < O
  hR : R < O
  wO : W.heap.size ≤ O
theorem SRel.below' {W wr w1 : World} {A B R O : Nat} {ga gb : Nat → Fr} {nb : Nat} {f : Nat → Fr × Bool} {k : Nat} (h : SRel W A B R O ga gb nb f k wr) (o : Ord2 W A B R O) (hb : Below wr.heap.size wr w1) : SRel W A B R O ga gb nb f k w1 := by
  have hz := h.size
  obtain ⟨a1, a2, a3, a4⟩ := o
  exact ⟨h.le, h.below.trans (hb.mono h.below.size), Nat.le_trans hz hb.size, h.one.below hb (by omega), h.two.below hb (by omega), h.res.below hb (by omega), h.room.below hb (by omega), h.out.below hb (by omega), h.good⟩
theorem SRel.put {W w1 : World} {A B R O : Nat} {ga gb : Nat → Fr} {nb : Nat} {f : Nat → Fr × Bool} {k : Nat} (h : SRel W A B R O ga gb nb f k w1) (o : Ord2 W A B R O) (hk : k < 4) (hok : (f k).2 = true) : SRel W A B R O ga gb nb f (k + 1) (putF w1 O k (f k).1) := by
  obtain ⟨a1, a2, a3, a4⟩ := o
  refine ⟨hk, ((h.below.setCell a4 _).setCell a4 _).setCell a4 _, by rw [putF_size]; exact h.size, h.one.put_other (by omega) k _, h.two.put_other (by omega) k _, h.res.put _ _ _, h.room.put _ _ _, h.out.put h.room hk, fun j hj => ?_⟩
  rcases Nat.lt_or_ge j k with h3 | h3
  · exact h.good j h3
  · obtain rfl : j = k := by omega
    exact hok
theorem SRel.alloc {W w1 : World} {A B R O : Nat} {ga gb : Nat → Fr} {nb : Nat} {f : Nat → Fr × Bool} {k : Nat} (h : SRel W A B R O ga gb nb f k w1) (o : Ord2 W A B R O) (x : Obj) : SRel W A B R O ga gb nb f k (w1.alloc x) := h.below' o ((Below.refl _ _).alloc (Nat.le_refl _) x)
theorem SRel.other {W w1 : World} {A B R O : Nat} {ga gb : Nat → Fr} {nb : Nat} {f : Nat → Fr × Bool} {k : Nat} (h : SRel W A B R O ga gb nb f k w1) (o : Ord2 W A B R O) {b : Nat} (hb : O < b) (j : Nat) (g : Fr) : SRel W A B R O ga gb nb f k (putF w1 b j g) := by
  obtain ⟨a1, a2, a3, a4⟩ := o
  exact ⟨h.le, ((h.below.setCell (by show _ ≤ b; omega) _).setCell (by show _ ≤ b; omega) _).setCell (by show _ ≤ b; omega) _, by rw [putF_size]; exact h.size, h.one.put_other (by omega) j _, h.two.put_other (by omega) j _, h.res.put _ _ _, h.room.put _ _ _, h.out.put_other (by omega) j _, h.good⟩
theorem SRel.drew {W wr : World} {A B R O : Nat} {ga gb : Nat → Fr} {nb : Nat} {f : Nat → Fr × Bool} {k : Nat} (h : SRel W A B R O ga gb nb f k wr) : SRel W A B R O ga gb nb f k wr.drew := ⟨h.le, h.below.drew, h.size, h.one, h.two, h.res, h.room, h.out, h.good⟩
end Go.Proofs.Ytlmpbijhidnekaa
