/- A box laid at a place that is known otherwise. -/
import Derived.Test.YtmcokdiopcpifaaDoorL
set_option maxRecDepth 100000
namespace Go.Proofs.YtmcokdiopcpifaaDoor
open Go.RowKit Pol

theorem rangeAt_nw {w : World} {L : List Value} {t : TypeId} {N : Nat} (h : w.heap.size = N) : (w.alloc (.cells L.toArray t)).rangeAt N 0 L := h ▸ rangeAt_new w L t
theorem cellsM {w : World} {N : Nat} {v0 v1 v2 v3 v4 v5 v6 v7 v8 v9 v10 v11 : Value} (h : w.rangeAt N 0 [v0, v1, v2, v3, v4, v5, v6, v7, v8, v9, v10, v11]) : w.cell? ⟨N, 0, none⟩ = some v0 ∧ w.cell? ⟨N, 1, none⟩ = some v1 ∧ w.cell? ⟨N, 2, none⟩ = some v2 ∧ w.cell? ⟨N, 3, none⟩ = some v3 ∧ w.cell? ⟨N, 4, none⟩ = some v4 ∧ w.cell? ⟨N, 5, none⟩ = some v5 ∧ w.cell? ⟨N, 6, none⟩ = some v6 ∧ w.cell? ⟨N, 7, none⟩ = some v7 ∧ w.cell? ⟨N, 8, none⟩ = some v8 ∧ w.cell? ⟨N, 9, none⟩ = some v9 ∧ w.cell? ⟨N, 10, none⟩ = some v10 ∧ w.cell? ⟨N, 11, none⟩ = some v11 :=
  ⟨by have := h 0 _ rfl; rwa [Nat.zero_add] at this, by have := h 1 _ rfl; rwa [Nat.zero_add] at this, by have := h 2 _ rfl; rwa [Nat.zero_add] at this, by have := h 3 _ rfl; rwa [Nat.zero_add] at this, by have := h 4 _ rfl; rwa [Nat.zero_add] at this, by have := h 5 _ rfl; rwa [Nat.zero_add] at this, by have := h 6 _ rfl; rwa [Nat.zero_add] at this, by have := h 7 _ rfl; rwa [Nat.zero_add] at this, by have := h 8 _ rfl; rwa [Nat.zero_add] at this, by have := h 9 _ rfl; rwa [Nat.zero_add] at this, by have := h 10 _ rfl; rwa [Nat.zero_add] at this, by have := h 11 _ rfl; rwa [Nat.zero_add] at this⟩
end Go.Proofs.YtmcokdiopcpifaaDoor
