/- Contracts: squares of the numbers of polarisation, the reference's side. -/
import Derived.Test.YtamdjgehmmogjaaK2
import Derived.Test.YtamdjgehmmogjaaQ4
set_option maxRecDepth 100000
namespace Go.Proofs.Ytamdjgehmmogjaa
open Go.RowKit Pol

theorem FrOut.self2 {g : Fr × Bool} {w w' : World} (hb : Below w.heap.size w w') : FrOut g w (.returned (.tuple #[.agg #[.int .i64 g.1.re, .int .i64 g.1.im, .int .i64 g.1.den], .bool g.2])) w' := ⟨g.1, g.2, rfl, rfl, hb⟩
/-- Where the loop stands: the places from 1 to m - 1 are done. -/
structure QRel (W : World) (A R O : Nat) (a : M4) (m : Nat) (wr : World) : Prop where
  lo : 1 ≤ m
  le : m ≤ 4
  below : Below W.heap.size W wr
  size : O + 1 ≤ wr.heap.size
  one : BoxAt wr A a.get 4
  res : Room wr R 1
  room : Room wr O 1
  out : BoxAt wr O (fun _ => accQ a m) 1
  good : ∀ j, 1 ≤ j → j < m → (tQ a j).2 = true ∧ (nQ a j).2 = true
def QR (W : World) (A R O : Nat) (a : M4) (i : Value) (wr : World) : Prop := ∃ m : Nat, i = .int .i64 m ∧ QRel W A R O a m wr
theorem QRel.next {W wr w1 : World} {A R O : Nat} {a : M4} {m : Nat} (h : QRel W A R O a m wr) (hA : A < O) (hR : R < O) (hb : Below wr.heap.size wr w1) : QRel W A R O a m w1 := by
  have hz := h.size
  exact ⟨h.lo, h.le, h.below.trans (hb.mono h.below.size), Nat.le_trans hz hb.size, h.one.below hb (by omega), h.res.below hb (by omega), h.room.below hb (by omega), h.out.below hb (by omega), h.good⟩
theorem QRel.alloc {W wr : World} {A R O : Nat} {a : M4} {m : Nat} (h : QRel W A R O a m wr) (hA : A < O) (hR : R < O) (x : Obj) : QRel W A R O a m (wr.alloc x) := h.next hA hR ((Below.refl _ _).alloc (Nat.le_refl _) x)
theorem QRel.drew {W wr : World} {A R O : Nat} {a : M4} {m : Nat} (h : QRel W A R O a m wr) : QRel W A R O a m wr.drew := ⟨h.lo, h.le, h.below.drew, h.size, h.one, h.res, h.room, h.out, h.good⟩
theorem QRel.other {W wr : World} {A R O : Nat} {a : M4} {m : Nat} (h : QRel W A R O a m wr) (hA : A < O) (_hR : R < O) (hW : W.heap.size ≤ O) {b : Nat} (hb : O < b) (g : Fr) : QRel W A R O a m (putF wr b 0 g) :=
  ⟨h.lo, h.le, ((h.below.setCell (by show _ ≤ b; omega) _).setCell (by show _ ≤ b; omega) _).setCell (by show _ ≤ b; omega) _, by rw [putF_size]; exact h.size, h.one.put_other (by omega) 0 g, h.res.put _ _ _, h.room.put _ _ _, h.out.put_other (by omega) 0 g, h.good⟩
theorem QRel.put {W wr : World} {A R O : Nat} {a : M4} {m : Nat} (h : QRel W A R O a m wr) (hA : A < O) (_hR : R < O) (hW : W.heap.size ≤ O) (h4 : m < 4) (h1 : (tQ a m).2 = true) (h2 : (nQ a m).2 = true) : QRel W A R O a (m + 1) (putF wr O 0 (nQ a m).1) := by
  refine ⟨by omega, h4, ((h.below.setCell hW _).setCell hW _).setCell hW _, by rw [putF_size]; exact h.size, h.one.put_other (by omega) 0 _, h.res.put _ _ _, h.room.put _ _ _, ?_, fun j j1 j2 => ?_⟩
  · rw [accQ_next a h.lo]; exact BoxAt.put (g := fun _ => (nQ a m).1) (k := 0) (fun k hk => absurd hk (by omega)) h.room (by omega)
  · rcases Nat.lt_or_ge j m with h3 | h3
    · exact h.good j j1 h3
    · obtain rfl : j = m := by omega
      exact ⟨h1, h2⟩
end Go.Proofs.Ytamdjgehmmogjaa
