/- Contracts: directions. -/
import Derived.Test.YtmfiiambannecaaW
namespace Go.Proofs.Ytmfiiambannecaa
open Go.RowKit Pol

theorem cell_new_at (w : World) (cs : Array Value) (t : TypeId) (j n : Nat) (hn : n = w.heap.size) : (w.alloc (.cells cs t)).cell? ⟨n, j, none⟩ = cs[j]? := by
  subst hn; exact cell_of_row _ _ j cs t _ (heap_alloc_new w _)
theorem results_cells2 {P : Program} {fn : Func} {p q u : Tmp} {ty : TypeId} (h : fn.results = #[.cell p ty, .cell q ty, .tmp u]) (tmps : Array Value) (w : World) (g k : Nat) (cs ds : List Value) (d : TypeDesc)
    (hp : tmps.getD p undef = .pointer (some ⟨g, 0, none⟩)) (hq : tmps.getD q undef = .pointer (some ⟨k, 0, none⟩)) (hc : w.rangeAt g 0 cs) (hk : w.rangeAt k 0 ds) (hu : P.underlying ty = some d) (hd : d.isRow = true) (hi : (P.info? ty).map (·.size) = some cs.length) (hj : (P.info? ty).map (·.size) = some ds.length) :
    (results fn tmps).run P w = .ok (.tuple #[.agg cs.toArray, .agg ds.toArray, tmps.getD u undef]) w := by
  have hp' : tmps[p]?.getD undef = .pointer (some ⟨g, 0, none⟩) := by simpa using hp
  have hq' : tmps[q]?.getD undef = .pointer (some ⟨k, 0, none⟩) := by simpa using hq
  simp [results, h, hp', hq', asAddr, run_loadVar_mid w g 0 ty cs d hc hu hd hi, run_loadVar_mid w k 0 ty ds d hk hu hd hj]
theorem two_ranges {W : World} {g k : Nat} (cs ds : List Value) (o : Obj) {n : Nat} (hg : Room W g n) (hk : Room W k n) (hn : g ≠ k) (h1 : cs.length = n * 3) (h2 : ds.length = n * 3) :
    (((W.setCells g 0 cs).setCells k 0 ds).alloc o).drew.rangeAt g 0 cs ∧ (((W.setCells g 0 cs).setCells k 0 ds).alloc o).drew.rangeAt k 0 ds :=
  ⟨(World.rangeAt_drew _ _ _ _).2 (World.rangeAt_alloc (World.rangeAt_setCells_apart (World.rangeAt_setCells_same W g 0 cs (h1 ▸ hg.there)) k 0 ds (Or.inl hn)) o),
   (World.rangeAt_drew _ _ _ _).2 (World.rangeAt_alloc (World.rangeAt_setCells_same _ k 0 ds (h2 ▸ World.there_setCells hk.there g 0 cs)) o)⟩
/-- What a call hands back that makes the two fractions of a direction. -/
def DirOut (p q : Int) (w : World) (e : Ending) (w' : World) : Prop :=
  e = .returned (if dirB p q = true then .tuple #[.agg #[.int .i64 (dC p q).re, .int .i64 (dC p q).im, .int .i64 (dC p q).den], .agg #[.int .i64 (dS p q).re, .int .i64 (dS p q).im, .int .i64 (dS p q).den], .bool true] else .tuple #[.agg #[.int .i64 0, .int .i64 0, .int .i64 0], .agg #[.int .i64 0, .int .i64 0, .int .i64 0], .bool false]) ∧ Below w.heap.size w w'
theorem DirOut.yes {p q : Int} {w w' : World} (h : dirB p q = true) (hb : Below w.heap.size w w') : DirOut p q w (.returned (.tuple #[.agg #[.int .i64 (dC p q).re, .int .i64 (dC p q).im, .int .i64 (dC p q).den], .agg #[.int .i64 (dS p q).re, .int .i64 (dS p q).im, .int .i64 (dS p q).den], .bool true])) w' := ⟨by rw [if_pos h], hb⟩
theorem DirOut.no {p q : Int} {w w' : World} (h : dirB p q = false) (hb : Below w.heap.size w w') : DirOut p q w (.returned (.tuple #[.agg #[.int .i64 0, .int .i64 0, .int .i64 0], .agg #[.int .i64 0, .int .i64 0, .int .i64 0], .bool false])) w' := ⟨by rw [if_neg (by rw [h]; simp)], hb⟩
end Go.Proofs.Ytmfiiambannecaa
