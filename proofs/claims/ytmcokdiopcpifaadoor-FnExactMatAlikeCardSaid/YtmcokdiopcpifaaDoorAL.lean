/- Contracts of the reference: alike light. -/
import Derived.Test.YtmcokdiopcpifaaDoorY
import Derived.Test.YtmcokdiopcpifaaDoorK4
import Derived.Test.YtmcokdiopcpifaaDoorK
import Derived.Test.YtmcokdiopcpifaaDoorS3
import Derived.Test.YtmcokdiopcpifaaDoorAB
set_option maxRecDepth 100000
namespace Go.Proofs.YtmcokdiopcpifaaDoor
open Go.RowKit Pol

theorem BoxAt.drew' {w : World} {N n : Nat} {g : Nat → Fr} (h : BoxAt w N g n) : BoxAt w.drew N g n := h
/-- Where the two loops stand. -/
structure ARel (W : World) (A B : Nat) (a b : M4) (i k : Nat) (wr : World) : Prop where
  le : i ≤ 4
  lk : k ≤ i
  below : Below W.heap.size W wr
  hA : A < wr.heap.size
  hB : B < wr.heap.size
  one : BoxAt wr A a.get 4
  two : BoxAt wr B b.get 4
  good : ∀ p q, q < p → (p < i ∨ (p = i ∧ q < k)) → gpB a b p q = true
def AO (W : World) (A B : Nat) (a b : M4) (v : Value) (wr : World) : Prop := ∃ i : Nat, v = .int .i64 i ∧ ARel W A B a b i 0 wr
def AI (W : World) (A B : Nat) (a b : M4) (i : Nat) (v : Value) (wr : World) : Prop := ∃ k : Nat, v = .int .i64 k ∧ ARel W A B a b i k wr
theorem ARel.next {W wr w1 : World} {A B : Nat} {a b : M4} {i k : Nat} (h : ARel W A B a b i k wr) (hb : Below wr.heap.size wr w1) : ARel W A B a b i k w1 :=
  ⟨h.le, h.lk, h.below.trans (hb.mono h.below.size), Nat.lt_of_lt_of_le h.hA hb.size, Nat.lt_of_lt_of_le h.hB hb.size, h.one.below hb h.hA, h.two.below hb h.hB, h.good⟩
theorem ARel.alloc {W wr : World} {A B : Nat} {a b : M4} {i k : Nat} (h : ARel W A B a b i k wr) (x : Obj) : ARel W A B a b i k (wr.alloc x) := h.next ((Below.refl _ _).alloc (Nat.le_refl _) x)
theorem ARel.drew {W wr : World} {A B : Nat} {a b : M4} {i k : Nat} (h : ARel W A B a b i k wr) : ARel W A B a b i k wr.drew := h.next (Below.refl _ _).drew
theorem ARel.other {W wr : World} {A B : Nat} {a b : M4} {i k : Nat} (h : ARel W A B a b i k wr) {X : Nat} (h1 : X ≠ A) (h2 : X ≠ B) (h3 : W.heap.size ≤ X) (g : Fr) : ARel W A B a b i k (putF wr X 0 g) :=
  ⟨h.le, h.lk, ((h.below.setCell h3 _).setCell h3 _).setCell h3 _, by rw [putF_size]; exact h.hA, by rw [putF_size]; exact h.hB, h.one.put_other h1 0 g, h.two.put_other h2 0 g, h.good⟩
theorem ARel.step {W wr : World} {A B : Nat} {a b : M4} {i k : Nat} (h : ARel W A B a b i k wr) (hk : k < i) (hg : gpB a b i k = true) : ARel W A B a b i (k + 1) wr :=
  ⟨h.le, hk, h.below, h.hA, h.hB, h.one, h.two, fun p q hq hp => by
    rcases hp with hp | ⟨rfl, hp⟩
    · exact h.good p q hq (Or.inl hp)
    · rcases Nat.lt_or_ge q k with h1 | h1
      · exact h.good p q hq (Or.inr ⟨rfl, h1⟩)
      · obtain rfl : q = k := by omega
        exact hg⟩
theorem ARel.row {W wr : World} {A B : Nat} {a b : M4} {i : Nat} (h : ARel W A B a b i i wr) (hi : i < 4) : ARel W A B a b (i + 1) 0 wr :=
  ⟨hi, Nat.zero_le _, h.below, h.hA, h.hB, h.one, h.two, fun p q hq hp => by
    rcases hp with hp | ⟨_, hp⟩
    · rcases Nat.lt_or_ge p i with h1 | h1
      · exact h.good p q hq (Or.inl h1)
      · obtain rfl : p = i := by omega
        exact h.good p q hq (Or.inr ⟨rfl, hq⟩)
    · omega⟩
end Go.Proofs.YtmcokdiopcpifaaDoor
