/- Contracts: the vector of pure light, both sides. -/
import Derived.Test.YtmcokdiopcpifaaDoorPjG19
import Derived.Test.YtmcokdiopcpifaaDoorPjSG
import Derived.Test.YtmcokdiopcpifaaDoorPjL
import Derived.Test.YtmcokdiopcpifaaDoorPjG8
import Derived.BigQuiet
import Derived.Deep.RegionHeld3
set_option maxRecDepth 100000
namespace Go.Proofs.YtmcokdiopcpifaaDoor
open Go.RowKit Pol
theorem BoxAt.of4 {W : World} {X : Nat} {m : M4} (h : W.rangeAt X 0 [.int .i64 m.a.re, .int .i64 m.a.im, .int .i64 m.a.den, .int .i64 m.b.re, .int .i64 m.b.im, .int .i64 m.b.den, .int .i64 m.c.re, .int .i64 m.c.im, .int .i64 m.c.den, .int .i64 m.d.re, .int .i64 m.d.im, .int .i64 m.d.den]) : BoxAt W X m.get 4 := fun k hk => by
  have e : k = 0 ∨ k = 1 ∨ k = 2 ∨ k = 3 := by omega
  rcases e with rfl | rfl | rfl | rfl
  · exact ⟨by have := h 0 _ rfl; rwa [Nat.zero_add] at this, by have := h 1 _ rfl; rwa [Nat.zero_add] at this, by have := h 2 _ rfl; rwa [Nat.zero_add] at this⟩
  · exact ⟨by have := h 3 _ rfl; rwa [Nat.zero_add] at this, by have := h 4 _ rfl; rwa [Nat.zero_add] at this, by have := h 5 _ rfl; rwa [Nat.zero_add] at this⟩
  · exact ⟨by have := h 6 _ rfl; rwa [Nat.zero_add] at this, by have := h 7 _ rfl; rwa [Nat.zero_add] at this, by have := h 8 _ rfl; rwa [Nat.zero_add] at this⟩
  · exact ⟨by have := h 9 _ rfl; rwa [Nat.zero_add] at this, by have := h 10 _ rfl; rwa [Nat.zero_add] at this, by have := h 11 _ rfl; rwa [Nat.zero_add] at this⟩
theorem gVec_1 {a : M4} (h : gPure a = false) : gVec a = (j2z, false) := by unfold gVec; rw [h]; rfl
theorem gVec_2 {a : M4} (h : m4B a mZ = true) : gVec a = (j2z, false) := by unfold gVec; rw [h]; simp
theorem gVec_3 {a : M4} {x : Fr} {p : Bool} (h : gPure a = true) (hz : m4B a mZ = false) (hx : fAdd a.a a.b = (x, p)) :
    gVec a = if p = true then (if frB x f0 = true then (⟨f0, (fTimes f2' a.a).1⟩, true) else (if (fLess a.c (fTimes a.d pI).1).2 = true then (⟨x, (fLess a.c (fTimes a.d pI).1).1⟩, true) else (j2z, false))) else (j2z, false) := by
  unfold gVec; rw [h, hz, hx]; simp only [Bool.not_false, Bool.and_self, if_true]
end Go.Proofs.YtmcokdiopcpifaaDoor
