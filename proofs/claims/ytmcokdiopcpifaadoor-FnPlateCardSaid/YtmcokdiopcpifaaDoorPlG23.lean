/- Plain facts: what the law about plates asks, in one. -/
import Derived.Test.YtmcokdiopcpifaaDoorPlQP
import Derived.Test.YtmcokdiopcpifaaDoorPlG4
set_option maxRecDepth 100000
namespace Go.Proofs.YtmcokdiopcpifaaDoor
open Pol
theorem plate_all {p q k k1 F G F1 G1 : Int} (hd : dirB p q = true) (hk : wi k 0 3 = true) (hk1 : wi k1 0 3 = true) (hp : Pha k F G) (hp1 : Pha k1 F1 G1) (hF : -G = F1) (hG : F = G1) :
    ∃ m u y, gPla p q k = (m, true) ∧ gPla p q 1 = (u, true) ∧ gPla p q k1 = (y, true) ∧ gAdj m = (mC m, true) ∧ (∀ A, mTm m (mC m) = (A, true) → gLos m = true) ∧ (∀ d, gDet m = (d, true) → d = ⟨F, G, 1⟩) ∧ (∀ X, mTm m u = (X, true) → X = y) := by
  have h1 := pla_one hd
  obtain ⟨m, l1, V⟩ := law_pla hd hk hp
  obtain ⟨u, l2, V1⟩ := law_pla hd (k := 1) (F := 0) (G := 1) rfl ⟨rfl, by omega⟩
  obtain ⟨y, l3, V2⟩ := law_pla hd hk1 hp1
  obtain ⟨e1, e2, e3⟩ := pha_val hp
  rw [hp.1] at e1 e2 e3
  have hn : (F : Rat) * F + G * G = 1 := by
    rw [← Rat.intCast_mul, ← Rat.intCast_mul, ← Rat.intCast_add]
    have : F * F + G * G = 1 := by
      rcases hp.2 with ⟨a, b⟩ | ⟨a, b⟩ | ⟨a, b⟩ | ⟨a, b⟩ <;> rw [a, b] <;> rfl
    rw [this]; rfl
  refine ⟨m, u, y, l1, l2, l3, gAdj_y V.v, fun A hA => pla_los V h1 hn hA, fun d hd => pla_det V h1 hd e1 e2 e3, fun X hX => pla_mul V V1 ?_ h1 hX⟩
  have a1 : ((F : Rat) * ((0 : Int) : Rat) - G * ((1 : Int) : Rat)) = F1 := by rw [← hF, Rat.intCast_neg, Rat.intCast_zero, Rat.intCast_one]; grind
  have a2 : ((F : Rat) * ((1 : Int) : Rat) + G * ((0 : Int) : Rat)) = G1 := by rw [← hG, Rat.intCast_zero, Rat.intCast_one]; grind
  rw [a1, a2]; exact V2
/-- The four powers as they lie in memory, and what is at place n of them. -/
theorem pow_at {n : Nat} (hn : n < 4) : ∃ F G F1 G1 : Int, Pha n F G ∧ wi n 0 3 = true ∧ wi (((n : Int) + 1) % 4) 0 3 = true ∧ Pha (((n : Int) + 1) % 4) F1 G1 ∧ -G = F1 ∧ F = G1 ∧
    ∀ (W : World) (X : Nat), W.rangeAt X 0 [.int .i64 1, .int .i64 0, .int .i64 1, .int .i64 0, .int .i64 1, .int .i64 1, .int .i64 (-1), .int .i64 0, .int .i64 1, .int .i64 0, .int .i64 (-1), .int .i64 1] → W.cell? ⟨X, n * 3, none⟩ = some (.int .i64 F) ∧ W.cell? ⟨X, n * 3 + 1, none⟩ = some (.int .i64 G) ∧ W.cell? ⟨X, n * 3 + 2, none⟩ = some (.int .i64 1) := by
  have e : n = 0 ∨ n = 1 ∨ n = 2 ∨ n = 3 := by omega
  rcases e with rfl | rfl | rfl | rfl
  · exact ⟨1, 0, 0, 1, ⟨rfl, by omega⟩, rfl, rfl, ⟨rfl, by omega⟩, rfl, rfl, fun W X h => ⟨by have := h 0 _ rfl; rwa [Nat.zero_add] at this, by have := h 1 _ rfl; rwa [Nat.zero_add] at this, by have := h 2 _ rfl; rwa [Nat.zero_add] at this⟩⟩
  · exact ⟨0, 1, (-1), 0, ⟨rfl, by omega⟩, rfl, rfl, ⟨rfl, by omega⟩, rfl, rfl, fun W X h => ⟨by have := h 3 _ rfl; rwa [Nat.zero_add] at this, by have := h 4 _ rfl; rwa [Nat.zero_add] at this, by have := h 5 _ rfl; rwa [Nat.zero_add] at this⟩⟩
  · exact ⟨(-1), 0, 0, (-1), ⟨rfl, by omega⟩, rfl, rfl, ⟨rfl, by omega⟩, rfl, rfl, fun W X h => ⟨by have := h 6 _ rfl; rwa [Nat.zero_add] at this, by have := h 7 _ rfl; rwa [Nat.zero_add] at this, by have := h 8 _ rfl; rwa [Nat.zero_add] at this⟩⟩
  · exact ⟨0, (-1), 1, 0, ⟨rfl, by omega⟩, rfl, rfl, ⟨rfl, by omega⟩, rfl, rfl, fun W X h => ⟨by have := h 9 _ rfl; rwa [Nat.zero_add] at this, by have := h 10 _ rfl; rwa [Nat.zero_add] at this, by have := h 11 _ rfl; rwa [Nat.zero_add] at this⟩⟩
end Go.Proofs.YtmcokdiopcpifaaDoor
namespace Go.Proofs.YtmcokdiopcpifaaDoor
open Go.RowKit Pol
theorem rangeOf1 {W : World} {X : Nat} {f : Nat → Fr} (h : BoxAt W X f 1) : W.rangeAt X 0 [.int .i64 (f 0).re, .int .i64 (f 0).im, .int .i64 (f 0).den] := by
  obtain ⟨a0, a1, a2⟩ := h 0 (by omega)
  intro j v hv
  rw [Nat.zero_add]
  match j, hv with
  | 0, hv => obtain rfl := Option.some.inj hv; exact a0
  | 1, hv => obtain rfl := Option.some.inj hv; exact a1
  | 2, hv => obtain rfl := Option.some.inj hv; exact a2
  | n + 3, hv => simp at hv
end Go.Proofs.YtmcokdiopcpifaaDoor
