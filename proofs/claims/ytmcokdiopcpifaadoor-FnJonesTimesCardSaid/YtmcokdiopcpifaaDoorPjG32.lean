/- What a draw keeps: the reader, two rooms for results, and boxes by their cells. -/
import Derived.Test.YtmcokdiopcpifaaDoorPjG1
import Derived.Test.YtmcokdiopcpifaaDoorPjG26
import Derived.Test.YtmcokdiopcpifaaDoorPjDS
import Derived.Test.YtmcokdiopcpifaaDoorPjSG
import Derived.Deep.DeepCutAuto
set_option maxRecDepth 100000
namespace Go.Proofs.YtmcokdiopcpifaaDoor
open Go.RowKit Pol
structure RX (w : World) (R : Nat) (a0 : Option Addr) (len cap k M0 n0 M1 n1 : Nat) (L : List (Nat × List Value)) (W : World) : Prop where
  below : Below w.heap.size w W
  rd : Rd w.heap.size R a0 len cap k W
  l0 : M0 < W.heap.size
  l1 : M1 < W.heap.size
  r0 : M0 ≠ R
  r1 : M1 ≠ R
  m0 : Room W M0 n0
  m1 : Room W M1 n1
  box : ∀ e ∈ L, (e.1 < W.heap.size ∧ e.1 ≠ R) ∧ W.rangeAt e.1 0 e.2
section
variable {w W W' : World} {R : Nat} {a0 : Option Addr} {len cap k M0 n0 M1 n1 : Nat} {L : List (Nat × List Value)}
theorem RX.next (K : RX w R a0 len cap k M0 n0 M1 n1 L W) (hb : Below W.heap.size W W') : RX w R a0 len cap k M0 n0 M1 n1 L W' :=
  ⟨K.below.trans (hb.mono K.below.size), K.rd.next hb, Nat.lt_of_lt_of_le K.l0 hb.size, Nat.lt_of_lt_of_le K.l1 hb.size, K.r0, K.r1, K.m0.below hb K.l0, K.m1.below hb K.l1, fun e he => ⟨⟨Nat.lt_of_lt_of_le (K.box e he).1.1 hb.size, (K.box e he).1.2⟩, rangeAt_below (K.box e he).2 hb (K.box e he).1.1⟩⟩
theorem RX.alloc (K : RX w R a0 len cap k M0 n0 M1 n1 L W) (z : Obj) : RX w R a0 len cap k M0 n0 M1 n1 L (W.alloc z) := K.next ((Below.refl _ _).alloc (Nat.le_refl _) z)
theorem RX.drew (K : RX w R a0 len cap k M0 n0 M1 n1 L W) : RX w R a0 len cap k M0 n0 M1 n1 L W.drew := K.next (Below.refl _ _).drew
theorem Room.ownX {N n : Nat} (h : Room W N n) (hO : Own R W W') (hl : N < W.heap.size) (hn : N ≠ R) : Room W' N n := fun j hj =>
  ⟨by rw [hO.cell hl hn]; exact (h j hj).1, by rw [hO.frozen hl hn]; exact (h j hj).2⟩
theorem RX.own {k' : Nat} (K : RX w R a0 len cap k M0 n0 M1 n1 L W) (hO : Own R W W') (hr : Rd w.heap.size R a0 len cap k' W') : RX w R a0 len cap k' M0 n0 M1 n1 L W' :=
  ⟨hO.mine K.below K.rd.base, hr, Nat.lt_of_lt_of_le K.l0 hO.size, Nat.lt_of_lt_of_le K.l1 hO.size, K.r0, K.r1, K.m0.ownX hO K.l0 K.r0, K.m1.ownX hO K.l1 K.r1, fun e he => ⟨⟨Nat.lt_of_lt_of_le (K.box e he).1.1 hO.size, (K.box e he).1.2⟩, fun j v hv => (hO.cell (K.box e he).1.1 (K.box e he).1.2 _).trans ((K.box e he).2 j v hv)⟩⟩
theorem Rd.setsX {N b : Nat} (hb : b ≠ R) : ∀ (vs : List Value) (o : Nat) {W : World}, Rd N R a0 len cap k W → N ≤ b → Rd N R a0 len cap k (W.setCells b o vs)
  | [], _, _, h, _ => h
  | v :: vs, o, W, h, hN => by
    refine Rd.setsX hb vs (o + 1) (W := W.setCell ⟨b, o, none⟩ v) ?_ hN
    have hf : ∀ B q, B ≠ b → (W.setCell ⟨b, o, none⟩ v).cell? ⟨B, q, none⟩ = W.cell? ⟨B, q, none⟩ := fun B q hB => World.cell?_setCell_far _ _ _ _ (by show b ≠ B; omega)
    exact ⟨by rw [World.size_setCell]; exact h.lt, h.base, (hf _ _ (by omega)).trans h.slice, by obtain ⟨p, h1, h2⟩ := h.place; exact ⟨p, h1, (hf _ _ (by omega)).trans h2⟩, by rw [World.frozen?_setCell]; exact h.free, h.short, h.code.keep fun B q hB => hf B q (by omega)⟩
theorem RX.store (K : RX w R a0 len cap k M0 n0 M1 n1 L W) {D : Nat} (h2 : ∀ e ∈ L, e.1 ≠ D) (h3 : D ≠ R) (h4 : w.heap.size ≤ D) (vs : List Value) : RX w R a0 len cap k M0 n0 M1 n1 L (W.setCells D 0 vs) :=
  have hs : (W.setCells D 0 vs).heap.size = W.heap.size := setCells_size2 _ _ _ _
  ⟨setCells_below _ _ _ K.below h4, Rd.setsX h3 vs 0 K.rd h4, by rw [hs]; exact K.l0, by rw [hs]; exact K.l1, K.r0, K.r1, K.m0.setsF _ _ _, K.m1.setsF _ _ _, fun e he => ⟨by rw [hs]; exact (K.box e he).1, World.rangeAt_setCells_apart (K.box e he).2 D 0 vs (Or.inl (h2 e he))⟩⟩
theorem RX.add (K : RX w R a0 len cap k M0 n0 M1 n1 L W) {D : Nat} {l : List Value} (hD : D < W.heap.size) (hR : D ≠ R) (hr : W.rangeAt D 0 l) : RX w R a0 len cap k M0 n0 M1 n1 ((D, l) :: L) W :=
  ⟨K.below, K.rd, K.l0, K.l1, K.r0, K.r1, K.m0, K.m1, fun e he => by
    rcases List.mem_cons.1 he with rfl | he
    · exact ⟨⟨hD, hR⟩, hr⟩
    · exact K.box e he⟩
theorem BoxAt.drX {X n : Nat} {g : Nat → Fr} (h : BoxAt W X g n) : BoxAt W.drew X g n := h
theorem RX.mono {k' : Nat} (K : RX w R a0 len cap k M0 n0 M1 n1 L W) (h : k ≤ k') : RX w R a0 len cap k' M0 n0 M1 n1 L W :=
  ⟨K.below, K.rd.mono h, K.l0, K.l1, K.r0, K.r1, K.m0, K.m1, K.box⟩
end
end Go.Proofs.YtmcokdiopcpifaaDoor
namespace Go.Proofs.YtmcokdiopcpifaaDoor
open Go.RowKit Pol
theorem box2 {W : World} {X : Nat} {m : J2} (r : Room W X 2) : BoxAt (((((((W).setCell ⟨X, 0, none⟩ (.int .i64 m.x.re)).setCell ⟨X, 1, none⟩ (.int .i64 m.x.im)).setCell ⟨X, 2, none⟩ (.int .i64 m.x.den)).setCell ⟨X, 3, none⟩ (.int .i64 m.y.re)).setCell ⟨X, 4, none⟩ (.int .i64 m.y.im)).setCell ⟨X, 5, none⟩ (.int .i64 m.y.den)) X (j2k m) 2 := by
  show BoxAt (putF (putF W X 0 (j2k m 0)) X 1 (j2k m 1)) X (j2k m) 2
  exact BoxAt.put (g := j2k m) (k := 1) (BoxAt.put (g := j2k m) (k := 0) (fun _ hk => absurd hk (by omega)) r (by omega)) (r.put _ _ _) (by omega)
def JJOut (w : World) (e : Ending) (w' : World) : Prop := ∃ a b : J2, e = .returned (.tuple #[.agg #[.int .i64 a.x.re, .int .i64 a.x.im, .int .i64 a.x.den, .int .i64 a.y.re, .int .i64 a.y.im, .int .i64 a.y.den], .agg #[.int .i64 b.x.re, .int .i64 b.x.im, .int .i64 b.x.den, .int .i64 b.y.re, .int .i64 b.y.im, .int .i64 b.y.den]]) ∧ Below w.heap.size w w'
end Go.Proofs.YtmcokdiopcpifaaDoor
