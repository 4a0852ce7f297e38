/- Contracts: draws of two. -/
import Derived.Test.YtamdjgehmmogjaaDS
import Derived.Test.YtamdjgehmmogjaaK4
import Derived.Deep.DeepCutAuto
set_option maxRecDepth 100000
namespace Go.Proofs.Ytamdjgehmmogjaa
open Go.RowKit Pol

theorem BoxAt.far' {W : World} {X D o n : Nat} {g : Nat → Fr} {x : Value} (h : BoxAt W X g n) (hne : X ≠ D) : BoxAt (W.setCell ⟨D, o, none⟩ x) X g n := fun k hk => by
  have hh : ∀ q, (W.setCell ⟨D, o, none⟩ x).cell? ⟨X, q, none⟩ = W.cell? ⟨X, q, none⟩ := fun q => World.cell?_setCell_far _ _ _ _ (by show D ≠ X; omega)
  rw [hh, hh, hh]; exact h k hk
theorem Room.far' {W : World} {X n : Nat} (h : Room W X n) (p : Addr) (x : Value) : Room (W.setCell p x) X n := h.set p x
theorem BoxAt.q12 {W : World} {X : Nat} {m : M4} (h : BoxAt W X m.get 4) : W.cell? ⟨X, 0, none⟩ = some (.int .i64 m.a.re) ∧ W.cell? ⟨X, 1, none⟩ = some (.int .i64 m.a.im) ∧ W.cell? ⟨X, 2, none⟩ = some (.int .i64 m.a.den) ∧ W.cell? ⟨X, 3, none⟩ = some (.int .i64 m.b.re) ∧ W.cell? ⟨X, 4, none⟩ = some (.int .i64 m.b.im) ∧ W.cell? ⟨X, 5, none⟩ = some (.int .i64 m.b.den) ∧ W.cell? ⟨X, 6, none⟩ = some (.int .i64 m.c.re) ∧ W.cell? ⟨X, 7, none⟩ = some (.int .i64 m.c.im) ∧ W.cell? ⟨X, 8, none⟩ = some (.int .i64 m.c.den) ∧ W.cell? ⟨X, 9, none⟩ = some (.int .i64 m.d.re) ∧ W.cell? ⟨X, 10, none⟩ = some (.int .i64 m.d.im) ∧ W.cell? ⟨X, 11, none⟩ = some (.int .i64 m.d.den) :=
  ⟨(h 0 (by omega)).1, (h 0 (by omega)).2.1, (h 0 (by omega)).2.2, (h 1 (by omega)).1, (h 1 (by omega)).2.1, (h 1 (by omega)).2.2, (h 2 (by omega)).1, (h 2 (by omega)).2.1, (h 2 (by omega)).2.2, (h 3 (by omega)).1, (h 3 (by omega)).2.1, (h 3 (by omega)).2.2⟩
set_option maxHeartbeats 2000000 in
theorem box4 {W : World} {X : Nat} {m : M4} (r : Room W X 4) : BoxAt (((((((((((((W).setCell ⟨X, 0, none⟩ (.int .i64 m.a.re)).setCell ⟨X, 1, none⟩ (.int .i64 m.a.im)).setCell ⟨X, 2, none⟩ (.int .i64 m.a.den)).setCell ⟨X, 3, none⟩ (.int .i64 m.b.re)).setCell ⟨X, 4, none⟩ (.int .i64 m.b.im)).setCell ⟨X, 5, none⟩ (.int .i64 m.b.den)).setCell ⟨X, 6, none⟩ (.int .i64 m.c.re)).setCell ⟨X, 7, none⟩ (.int .i64 m.c.im)).setCell ⟨X, 8, none⟩ (.int .i64 m.c.den)).setCell ⟨X, 9, none⟩ (.int .i64 m.d.re)).setCell ⟨X, 10, none⟩ (.int .i64 m.d.im)).setCell ⟨X, 11, none⟩ (.int .i64 m.d.den)) X m.get 4 := by
  show BoxAt (putF (putF (putF (putF W X 0 (m.get 0)) X 1 (m.get 1)) X 2 (m.get 2)) X 3 (m.get 3)) X m.get 4
  exact   BoxAt.put (g := m.get) (k := 3) (BoxAt.put (g := m.get) (k := 2) (BoxAt.put (g := m.get) (k := 1) (BoxAt.put (g := m.get) (k := 0) (fun k hk => absurd hk (by omega)) r (by omega)) (r.put _ _ _) (by omega)) ((r.put _ _ _).put _ _ _) (by omega)) (((r.put _ _ _).put _ _ _).put _ _ _) (by omega)
theorem box1' {W : World} {X : Nat} {f : Fr} (r : Room W X 1) : BoxAt (((W.setCell ⟨X, 0, none⟩ (.int .i64 f.re)).setCell ⟨X, 1, none⟩ (.int .i64 f.im)).setCell ⟨X, 2, none⟩ (.int .i64 f.den)) X (fun _ => f) 1 :=
  BoxAt.put (g := fun _ => f) (k := 0) (fun k hk => absurd hk (by omega)) r (by omega)
theorem BoxAt.drewN' {W : World} {X n : Nat} {g : Nat → Fr} (h : BoxAt W X g n) : BoxAt W.drew X g n := h
theorem Rd.puts' {N R : Nat} {a0 : Option Addr} {len cap k : Nat} {w : World} {b o : Nat} {v : Value} (h : Rd N R a0 len cap k w) (hb : b < R ∧ N ≤ b) : Rd N R a0 len cap k (w.setCell ⟨b, o, none⟩ v) := by
  have hf : ∀ B q, B ≠ b → (w.setCell ⟨b, o, none⟩ v).cell? ⟨B, q, none⟩ = w.cell? ⟨B, q, none⟩ := fun B q hB => World.cell?_setCell_far _ _ _ _ (by show b ≠ B; omega)
  refine ⟨by rw [World.size_setCell]; exact h.lt, h.base, (hf _ _ (by omega)).trans h.slice, by obtain ⟨p, h1, h2⟩ := h.place; exact ⟨p, h1, (hf _ _ (by omega)).trans h2⟩, by rw [World.frozen?_setCell]; exact h.free, h.short, h.code.keep fun B q hB => hf B q (by omega)⟩
theorem Own.out2 {R : Nat} {W w1 : World} (h : Own R W w1) : ∃ B, B = W.heap.size ∧ (∀ k, k < B → k ≠ R → ∀ o, w1.cell? ⟨k, o, none⟩ = W.cell? ⟨k, o, none⟩) ∧ (∀ k, k < B → k ≠ R → ∀ o, w1.frozen? ⟨k, o, none⟩ = W.frozen? ⟨k, o, none⟩) :=
  ⟨_, rfl, fun k hk hn o => h.cell hk hn o, fun k hk hn o => h.frozen hk hn o⟩
def SSOut (w : World) (e : Ending) (w' : World) : Prop := ∃ a b : M4, e = .returned (.tuple #[.agg #[.int .i64 a.a.re, .int .i64 a.a.im, .int .i64 a.a.den, .int .i64 a.b.re, .int .i64 a.b.im, .int .i64 a.b.den, .int .i64 a.c.re, .int .i64 a.c.im, .int .i64 a.c.den, .int .i64 a.d.re, .int .i64 a.d.im, .int .i64 a.d.den], .agg #[.int .i64 b.a.re, .int .i64 b.a.im, .int .i64 b.a.den, .int .i64 b.b.re, .int .i64 b.b.im, .int .i64 b.b.den, .int .i64 b.c.re, .int .i64 b.c.im, .int .i64 b.c.den, .int .i64 b.d.re, .int .i64 b.d.im, .int .i64 b.d.den]]) ∧ Below w.heap.size w w'
def SFOut (w : World) (e : Ending) (w' : World) : Prop := ∃ (a : M4) (b : Fr), e = .returned (.tuple #[.agg #[.int .i64 a.a.re, .int .i64 a.a.im, .int .i64 a.a.den, .int .i64 a.b.re, .int .i64 a.b.im, .int .i64 a.b.den, .int .i64 a.c.re, .int .i64 a.c.im, .int .i64 a.c.den, .int .i64 a.d.re, .int .i64 a.d.im, .int .i64 a.d.den], .agg #[.int .i64 b.re, .int .i64 b.im, .int .i64 b.den]]) ∧ Below w.heap.size w w'
theorem l91Stokes_w {N R : Nat} {a0 : Option Addr} {len cap k : Nat} {w : World} (hk : k ≤ 40000) (h : Rd N R a0 len cap k w) :
    Calls Try.prog 45 #[.pointer (some ⟨R, 0, none⟩)] w (RdOut M4P N R a0 len cap (k + 300) w) := l91Stokes_any hk h
end Go.Proofs.Ytamdjgehmmogjaa
