/- Contracts of the laws' helpers: plain data to the program's types. -/
import Derived.Test.YtmcokdiopcpifaaDoorPjG1
import Derived.Deep.MidRow
import Derived.Laws.Rows
set_option maxRecDepth 100000
namespace Go.Proofs.YtmcokdiopcpifaaDoor
open Go.RowKit Pol
/-- Block N holds the n fractions g from offset 0 on. -/
def BoxAt (w : World) (N : Nat) (g : Nat → Fr) (n : Nat) : Prop :=
  ∀ k, k < n → w.cell? ⟨N, k * 3, none⟩ = some (.int .i64 (g k).re) ∧ w.cell? ⟨N, k * 3 + 1, none⟩ = some (.int .i64 (g k).im) ∧ w.cell? ⟨N, k * 3 + 2, none⟩ = some (.int .i64 (g k).den)
/-- Block N has n places for fractions that may be written. -/
def Room (w : World) (N n : Nat) : Prop := ∀ j, j < n * 3 → (w.cell? ⟨N, j, none⟩).isSome = true ∧ w.frozen? ⟨N, j, none⟩ = false
theorem BoxAt.below {w w' : World} {N n : Nat} {g : Nat → Fr} (h : BoxAt w N g n) {B : Nat} (hb : Below B w w') (hN : N < B) : BoxAt w' N g n := fun k hk =>
  ⟨(hb.cell (p := ⟨N, _, none⟩) hN).trans (h k hk).1, (hb.cell (p := ⟨N, _, none⟩) hN).trans (h k hk).2.1, (hb.cell (p := ⟨N, _, none⟩) hN).trans (h k hk).2.2⟩
theorem Room.below {w w' : World} {N n : Nat} (h : Room w N n) {B : Nat} (hb : Below B w w') (hN : N < B) : Room w' N n := fun j hj =>
  ⟨by rw [hb.cell (p := ⟨N, _, none⟩) hN]; exact (h j hj).1, by rw [hb.frozen (p := ⟨N, _, none⟩) hN]; exact (h j hj).2⟩
theorem Room.set {w : World} {N n : Nat} (h : Room w N n) (a : Addr) (v : Value) : Room (w.setCell a v) N n := fun j hj => by
  refine ⟨?_, by rw [World.frozen?_setCell]; exact (h j hj).2⟩
  by_cases e : a = ⟨N, j, none⟩
  · subst e; rw [World.cell?_setCell_same' _ _ _ (h j hj).1]; rfl
  · rw [World.cell?_setCell_other _ _ _ _ e]; exact (h j hj).1
/-- A store of a fraction at place k. -/
def putF (w : World) (N k : Nat) (f : Fr) : World := ((w.setCell ⟨N, k * 3, none⟩ (.int .i64 f.re)).setCell ⟨N, k * 3 + 1, none⟩ (.int .i64 f.im)).setCell ⟨N, k * 3 + 2, none⟩ (.int .i64 f.den)
theorem Room.put {w : World} {N n : Nat} (h : Room w N n) (M k : Nat) (f : Fr) : Room (putF w M k f) N n := ((h.set _ _).set _ _).set _ _
theorem putF_size (w : World) (N k : Nat) (f : Fr) : (putF w N k f).heap.size = w.heap.size := by simp [putF]
theorem BoxAt.put_other {w : World} {N n : Nat} {g : Nat → Fr} (h : BoxAt w N g n) {M : Nat} (hM : M ≠ N) (k : Nat) (f : Fr) : BoxAt (putF w M k f) N g n := fun j hj => by
  unfold putF
  have e : ∀ (w : World) (o p : Nat) (v : Value), (w.setCell ⟨M, o, none⟩ v).cell? ⟨N, p, none⟩ = w.cell? ⟨N, p, none⟩ := fun w o p v => World.cell?_setCell_far _ _ _ _ hM
  simp only [e]; exact h j hj
theorem ne_off {N a b : Nat} (h : a ≠ b) : (⟨N, a, none⟩ : Addr) ≠ ⟨N, b, none⟩ := fun e => h (by injection e)
theorem BoxAt.put {w : World} {N n k : Nat} {g : Nat → Fr} (h : BoxAt w N g k) (r : Room w N n) (hk : k < n) : BoxAt (putF w N k (g k)) N g (k + 1) := by
  have same : ∀ (w : World) (o : Nat) (v : Value), Room w N n → o < n * 3 → (w.setCell ⟨N, o, none⟩ v).cell? ⟨N, o, none⟩ = some v := fun w o v r ho => World.cell?_setCell_same' _ _ _ (r o ho).1
  have oth : ∀ (w : World) (o p : Nat) (v : Value), o ≠ p → (w.setCell ⟨N, o, none⟩ v).cell? ⟨N, p, none⟩ = w.cell? ⟨N, p, none⟩ := fun w o p v hn => World.cell?_setCell_other _ _ _ _ (ne_off hn)
  intro j hj
  unfold putF
  by_cases e : j = k
  · subst e
    refine ⟨?_, ?_, ?_⟩
    · rw [oth _ _ _ _ (by omega), oth _ _ _ _ (by omega), same _ _ _ r (by omega)]
    · rw [oth _ _ _ _ (by omega), same _ _ _ (r.set _ _) (by omega)]
    · rw [same _ _ _ ((r.set _ _).set _ _) (by omega)]
  · have hj' : j < k := by omega
    obtain ⟨h1, h2, h3⟩ := h j hj'
    refine ⟨?_, ?_, ?_⟩ <;> rw [oth _ _ _ _ (by omega), oth _ _ _ _ (by omega), oth _ _ _ _ (by omega)] <;> assumption
theorem Room.new (w : World) (cs : Array Value) (t : TypeId) (n : Nat) (h : cs.size = n * 3) : Room (w.alloc (.cells cs t)) w.heap.size n := fun j hj => by
  have hh := heap_alloc_new w (.cells cs t)
  refine ⟨?_, ?_⟩
  · rw [cell_of_row _ _ j cs t _ hh]; simp; omega
  · exact frozen_of_row _ _ j cs t hh
theorem BoxAt.new (w : World) (cs : Array Value) (t : TypeId) (g : Nat → Fr) (n : Nat) (h : ∀ k, k < n → cs[k * 3]? = some (.int .i64 (g k).re) ∧ cs[k * 3 + 1]? = some (.int .i64 (g k).im) ∧ cs[k * 3 + 2]? = some (.int .i64 (g k).den)) : BoxAt (w.alloc (.cells cs t)) w.heap.size g n := fun k hk => by
  have hh := heap_alloc_new w (.cells cs t)
  rw [cell_of_row _ _ _ cs t _ hh, cell_of_row _ _ _ cs t _ hh, cell_of_row _ _ _ cs t _ hh]
  exact h k hk
theorem BoxAt.new' {w : World} {N n : Nat} {cs : Array Value} {t : TypeId} {g : Nat → Fr} (hN : w.heap.size = N) (h : ∀ k, k < n → cs[k * 3]? = some (.int .i64 (g k).re) ∧ cs[k * 3 + 1]? = some (.int .i64 (g k).im) ∧ cs[k * 3 + 2]? = some (.int .i64 (g k).den)) : BoxAt (w.alloc (.cells cs t)) N g n := hN ▸ BoxAt.new w cs t g n h
theorem Room.new' {w : World} {N n : Nat} {cs : Array Value} {t : TypeId} (hN : w.heap.size = N) (h : cs.size = n * 3) : Room (w.alloc (.cells cs t)) N n := hN ▸ Room.new w cs t n h
theorem BoxAt.alloc {w : World} {N n : Nat} {g : Nat → Fr} (h : BoxAt w N g n) (hN : N < w.heap.size) (o : Obj) : BoxAt (w.alloc o) N g n := h.below ((Below.refl w.heap.size w).alloc (Nat.le_refl _) o) hN
theorem Room.alloc {w : World} {N n : Nat} (h : Room w N n) (hN : N < w.heap.size) (o : Obj) : Room (w.alloc o) N n := h.below ((Below.refl w.heap.size w).alloc (Nat.le_refl _) o) hN
/-- The relation of the loop that copies n fractions. -/
structure TRel (W : World) (g : Nat → Fr) (n k : Nat) (wr : World) : Prop where
  le : k ≤ n
  below : Below W.heap.size W wr
  size : W.heap.size + 1 + 1 + 1 ≤ wr.heap.size
  src : BoxAt wr W.heap.size g n
  room : Room wr (W.heap.size + 1 + 1) n
  out : BoxAt wr (W.heap.size + 1 + 1) g k
  res : Room wr (W.heap.size + 1) n
theorem TRel.step {W wr w1 : World} {g : Nat → Fr} {n k : Nat} (h : TRel W g n k wr) (hk : k < n) (hb : Below wr.heap.size wr w1) : TRel W g n (k + 1) (putF w1 (W.heap.size + 1 + 1) k (g k)) := by
  have hs := h.size
  refine ⟨hk, ?_, ?_, ?_, ?_, ?_, ?_⟩
  · have := h.below.trans (hb.mono h.below.size)
    exact ((this.setCell (by show _ ≤ W.heap.size + 1 + 1; omega) _).setCell (by show _ ≤ W.heap.size + 1 + 1; omega) _).setCell (by show _ ≤ W.heap.size + 1 + 1; omega) _
  · rw [putF_size]; exact Nat.le_trans hs hb.size
  · exact (h.src.below hb (by omega)).put_other (by omega) k _
  · exact (h.room.below hb (by omega)).put _ _ _
  · exact (h.out.below hb (by omega)).put (h.room.below hb (by omega)) hk
  · exact (h.res.below hb (by omega)).put _ _ _
/-- The cells of the first n fractions. -/
def cl (g : Nat → Fr) : Nat → List Value
  | 0 => []
  | n + 1 => cl g n ++ [.int .i64 (g n).re, .int .i64 (g n).im, .int .i64 (g n).den]
theorem cl_len (g : Nat → Fr) : ∀ n, (cl g n).length = n * 3
  | 0 => rfl
  | n + 1 => by simp [cl, cl_len g n]; omega
theorem cl_one (g : Nat → Fr) (n : Nat) : (cl g n).toArray.all (·.oneCell') = true := all_oneCell_toArray (fun v hv => by
  induction n with
  | zero => simp [cl] at hv
  | succ n ih =>
    simp only [cl, List.mem_append, List.mem_cons, List.not_mem_nil, or_false] at hv
    rcases hv with hv | rfl | rfl | rfl
    · exact ih hv
    all_goals rfl)
theorem Room.thereC {w : World} {N n : Nat} (g : Nat → Fr) (h : Room w N n) : w.there N 0 (cl g n).toArray.size := fun j hj => by rw [Nat.zero_add]; exact h j (by simpa [cl_len] using hj)
theorem BoxAt.range {w : World} {N : Nat} {g : Nat → Fr} : ∀ {n : Nat}, BoxAt w N g n → w.rangeAt N 0 (cl g n)
  | 0, _ => fun j v hv => by simp [cl] at hv
  | n + 1, h => fun j v hv => by
    have hl := cl_len g n
    rw [Nat.zero_add]
    have hv' : (cl g n ++ [.int .i64 (g n).re, .int .i64 (g n).im, .int .i64 (g n).den])[j]? = some v := hv
    by_cases hj : j < n * 3
    · rw [List.getElem?_append_left (by omega)] at hv'
      have := BoxAt.range (n := n) (fun k hk => h k (by omega)) j v hv'
      rwa [Nat.zero_add] at this
    · rw [List.getElem?_append_right (by omega), hl] at hv'
      obtain ⟨h1, h2, h3⟩ := h n (by omega)
      have hj3 : j - n * 3 < 3 := by
        rcases Nat.lt_or_ge (j - n * 3) 3 with h' | h'
        · exact h'
        · rw [List.getElem?_eq_none (by simp; omega)] at hv'; cases hv'
      have : j - n * 3 = 0 ∨ j - n * 3 = 1 ∨ j - n * 3 = 2 := by omega
      rcases this with e | e | e
      · rw [e] at hv'; rw [show j = n * 3 by omega, h1]; simpa using hv'
      · rw [e] at hv'; rw [show j = n * 3 + 1 by omega, h2]; simpa using hv'
      · rw [e] at hv'; rw [show j = n * 3 + 2 by omega, h3]; simpa using hv'
theorem Room.there {w : World} {N n : Nat} (h : Room w N n) : w.there N 0 (n * 3) := fun j hj => by rw [Nat.zero_add]; exact h j hj
theorem results_cell_mid {P : Program} {fn : Func} {p : Tmp} {ty : TypeId} (h : fn.results = #[.cell p ty]) (tmps : Array Value) (w : World) (g : Nat) (cs : List Value) (d : TypeDesc)
    (hp : tmps.getD p undef = .pointer (some ⟨g, 0, none⟩)) (hc : w.rangeAt g 0 cs) (hu : P.underlying ty = some d) (hd : d.isRow = true) (hi : (P.info? ty).map (·.size) = some cs.length) :
    (results fn tmps).run P w = .ok (.agg cs.toArray) w := by
  have hp' : tmps[p]?.getD undef = .pointer (some ⟨g, 0, none⟩) := by simpa using hp
  simp [results, h, hp', asAddr, run_loadVar_mid w g 0 ty cs d hc hu hd hi]
theorem setCells_below (g : Nat) : ∀ (vs : List Value) (o : Nat) {B : Nat} {a w : World}, Below B a w → B ≤ g → Below B a (w.setCells g o vs)
  | [], _, _, _, _, h, _ => h
  | v :: vs, o, _, _, _, h, hg => setCells_below g vs (o + 1) (h.setCell (p := ⟨g, o, none⟩) hg v) hg
theorem rangeAt_new (w : World) (L : List Value) (t : TypeId) : (w.alloc (.cells L.toArray t)).rangeAt w.heap.size 0 L := fun j v hv => by
  rw [Nat.zero_add, cell_of_row _ _ j L.toArray t _ (heap_alloc_new w _)]; simpa using hv
theorem rangeAt_below {w w' : World} {N o B : Nat} {L : List Value} (h : w.rangeAt N o L) (hb : Below B w w') (hN : N < B) : w'.rangeAt N o L := fun j v hv => (hb.cell (p := ⟨N, _, none⟩) hN).trans (h j v hv)
theorem cl4 (m : M4) : (cl m.get 4).toArray = #[.int .i64 m.a.re, .int .i64 m.a.im, .int .i64 m.a.den, .int .i64 m.b.re, .int .i64 m.b.im, .int .i64 m.b.den, .int .i64 m.c.re, .int .i64 m.c.im, .int .i64 m.c.den, .int .i64 m.d.re, .int .i64 m.d.im, .int .i64 m.d.den] := by kernel_rfl
end Go.Proofs.YtmcokdiopcpifaaDoor
