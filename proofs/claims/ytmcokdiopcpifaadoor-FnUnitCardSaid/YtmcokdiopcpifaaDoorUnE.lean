/- Contracts: the reckoning that remembers (methods of sum), and what is got of it. -/
import Derived.Test.YtmcokdiopcpifaaDoorUnD
set_option maxRecDepth 100000
namespace Go.Proofs.YtmcokdiopcpifaaDoor
open Go.RowKit Pol
/-- Nothing that was there has turned but block b, whose one cell holds the Bool v. -/
structure Sm (b : Nat) (v : Bool) (w w' : World) : Prop where
  os : w'.os = w.os
  tape : w'.tape = w.tape
  output : w'.output = w.output
  size : w.heap.size ≤ w'.heap.size
  block : ∀ k, k < w.heap.size → k ≠ b → w'.heap[k]? = w.heap[k]?
  cell : w'.cell? ⟨b, 0, none⟩ = some (.bool v)
  free : w'.frozen? ⟨b, 0, none⟩ = false
theorem Sm.of_below {b : Nat} {v : Bool} {w w' : World} (h : Below w.heap.size w w') (hb : b < w.heap.size) (hc : w.cell? ⟨b, 0, none⟩ = some (.bool v)) (hf : w.frozen? ⟨b, 0, none⟩ = false) : Sm b v w w' :=
  ⟨h.os, h.tape, h.output, h.size, fun k hk _ => h.block k hk, (h.cell (p := ⟨b, 0, none⟩) hb).trans hc, (h.frozen (p := ⟨b, 0, none⟩) hb).trans hf⟩
theorem Sm.below {b : Nat} {v : Bool} {w w' : World} (h : Sm b v w w') {k : World} (hk : Below w'.heap.size w' k) (hb : b < w.heap.size) : Sm b v w k :=
  ⟨hk.os.trans h.os, hk.tape.trans h.tape, hk.output.trans h.output, Nat.le_trans h.size hk.size, fun i hi hn => (hk.block i (Nat.lt_of_lt_of_le hi h.size)).trans (h.block i hi hn), (hk.cell (p := ⟨b, 0, none⟩) (Nat.lt_of_lt_of_le hb h.size)).trans h.cell, (hk.frozen (p := ⟨b, 0, none⟩) (Nat.lt_of_lt_of_le hb h.size)).trans h.free⟩
theorem Sm.trans {b : Nat} {v u : Bool} {w w1 w2 : World} (h : Sm b v w w1) (k : Sm b u w1 w2) : Sm b u w w2 :=
  ⟨k.os.trans h.os, k.tape.trans h.tape, k.output.trans h.output, Nat.le_trans h.size k.size, fun i hi hn => (k.block i (Nat.lt_of_lt_of_le hi h.size) hn).trans (h.block i hi hn), k.cell, k.free⟩
theorem Sm.after {b : Nat} {v : Bool} {w w1 w2 : World} (h : Below w.heap.size w w1) (k : Sm b v w1 w2) : Sm b v w w2 :=
  ⟨k.os.trans h.os, k.tape.trans h.tape, k.output.trans h.output, Nat.le_trans h.size k.size, fun i hi hn => (k.block i (Nat.lt_of_lt_of_le hi h.size) hn).trans (h.block i hi), k.cell, k.free⟩
theorem Sm.set {b : Nat} {v : Bool} {w w1 : World} (h : Sm b v w w1) (u : Bool) : Sm b u w (w1.setCell ⟨b, 0, none⟩ (.bool u)) :=
  ⟨h.os, h.tape, h.output, by rw [World.size_setCell]; exact h.size, fun i hi hn => (Below.heap_setCell _ _ _ _ hn).trans (h.block i hi hn), World.cell?_setCell_same' _ _ _ (by rw [h.cell]; rfl), by rw [World.frozen?_setCell]; exact h.free⟩
theorem Sm.setOwn {b : Nat} {v : Bool} {w w1 : World} (h : Sm b v w w1) {p : Addr} (hp : w.heap.size ≤ p.block) (hb : b < w.heap.size) (u : Value) : Sm b v w (w1.setCell p u) := by
  have hne : p.block ≠ b := by omega
  refine ⟨h.os, h.tape, h.output, by rw [World.size_setCell]; exact h.size, fun i hi hn => (Below.heap_setCell _ _ _ _ (by omega)).trans (h.block i hi hn), ?_, by rw [World.frozen?_setCell]; exact h.free⟩
  rw [World.cell?_setCell_far _ _ _ _ hne]; exact h.cell
theorem Sm.alloc {b : Nat} {v : Bool} {w w1 : World} (h : Sm b v w w1) (hb : b < w.heap.size) (o : Obj) : Sm b v w (w1.alloc o) := h.below ((Below.refl _ _).alloc (Nat.le_refl _) o) hb
theorem Sm.drewN {b : Nat} {v : Bool} {w w1 : World} (h : Sm b v w w1) (n : Nat) : Sm b v w (w1.drewN n) := ⟨h.os, h.tape, h.output, h.size, h.block, h.cell, h.free⟩
/-- A block that is the caller's own: below the caller's start nothing has turned. -/
theorem Sm.own {b : Nat} {v : Bool} {a w w' : World} (h : Sm b v w w') (k : Below a.heap.size a w) (hb : a.heap.size ≤ b) : Below a.heap.size a w' :=
  k.trans ⟨h.os, h.tape, h.output, h.size, fun i hi => h.block i (Nat.lt_of_lt_of_le hi k.size) (by omega)⟩
/-- What the caller needs of its other blocks. -/
theorem Sm.keep {b : Nat} {v : Bool} {W w1 : World} {B : Nat} (h : Sm b v W w1) (hB : B ≤ W.heap.size) : (∀ k o, k < B → k ≠ b → w1.cell? ⟨k, o, none⟩ = W.cell? ⟨k, o, none⟩) ∧ (∀ k o, k < B → k ≠ b → w1.frozen? ⟨k, o, none⟩ = W.frozen? ⟨k, o, none⟩) ∧ B ≤ w1.heap.size ∧ w1.cell? ⟨b, 0, none⟩ = some (.bool v) ∧ w1.frozen? ⟨b, 0, none⟩ = false :=
  ⟨fun k _ hk hn => World.cell?_of_block (h.block k (Nat.lt_of_lt_of_le hk hB) hn), fun k _ hk hn => World.frozen?_of_block (h.block k (Nat.lt_of_lt_of_le hk hB) hn), Nat.le_trans hB h.size, h.cell, h.free⟩
theorem Sm.keepOwn {b : Nat} {v : Bool} {W w1 : World} {N B : Nat} (h : Sm b v W w1) (hN : b < N) (hB : B ≤ W.heap.size) : (∀ k o, N ≤ k → k < B → w1.cell? ⟨k, o, none⟩ = W.cell? ⟨k, o, none⟩) ∧ (∀ k o, N ≤ k → k < B → w1.frozen? ⟨k, o, none⟩ = W.frozen? ⟨k, o, none⟩) ∧ B ≤ w1.heap.size ∧ w1.cell? ⟨b, 0, none⟩ = some (.bool v) ∧ w1.frozen? ⟨b, 0, none⟩ = false :=
  ⟨fun k _ h1 hk => World.cell?_of_block (h.block k (Nat.lt_of_lt_of_le hk hB) (by show k ≠ b; omega)), fun k _ h1 hk => World.frozen?_of_block (h.block k (Nat.lt_of_lt_of_le hk hB) (by show k ≠ b; omega)), Nat.le_trans hB h.size, h.cell, h.free⟩
theorem Sm.atc {b : Nat} {v : Bool} {W w1 : World} (h : Sm b v W w1) (k : Nat) (hk : k < W.heap.size) (hn : k ≠ b) (o : Nat) : w1.cell? ⟨k, o, none⟩ = W.cell? ⟨k, o, none⟩ := World.cell?_of_block (h.block k hk hn)
theorem Sm.atf {b : Nat} {v : Bool} {W w1 : World} (h : Sm b v W w1) (k : Nat) (hk : k < W.heap.size) (hn : k ≠ b) (o : Nat) : w1.frozen? ⟨k, o, none⟩ = W.frozen? ⟨k, o, none⟩ := World.frozen?_of_block (h.block k hk hn)
theorem Sm.refl {b : Nat} {v : Bool} {w : World} (hc : w.cell? ⟨b, 0, none⟩ = some (.bool v)) (hf : w.frozen? ⟨b, 0, none⟩ = false) : Sm b v w w :=
  ⟨rfl, rfl, rfl, Nat.le_refl _, fun _ _ _ => rfl, hc, hf⟩
/-- What a method of the reckoning hands back: the fraction, and the Bool of block b after it. -/
def SmOut (b : Nat) (v : Bool) (g : Fr × Bool) (w : World) (e : Ending) (w' : World) : Prop :=
  ∃ f ok u, Hid (g = (f, ok)) ∧ Hid (u = (v || !ok)) ∧ e = .returned (.agg #[.int .i64 f.re, .int .i64 f.im, .int .i64 f.den]) ∧ Sm b u w w'
theorem SmOut.mk {b : Nat} {v : Bool} {g : Fr × Bool} {f : Fr} {ok u : Bool} {w w' : World} {e : Ending} (h : Hid (g = (f, ok))) (hu : Hid (u = (v || !ok))) (he : e = .returned (.agg #[.int .i64 f.re, .int .i64 f.im, .int .i64 f.den])) (hs : Sm b u w w') : SmOut b v g w e w' := ⟨f, ok, u, h, hu, he, hs⟩
theorem SmOut.fn {b : Nat} {v : Bool} {g : Fr × Bool} {w w' : World} {e : Ending} (h : SmOut b v g w e w') : e = .returned (.agg #[.int .i64 g.1.re, .int .i64 g.1.im, .int .i64 g.1.den]) ∧ Sm b (v || !g.2) w w' := by
  obtain ⟨f, ok, u, hg, hu, he, hs⟩ := h
  have hg' := hg.out; have hu' := hu.out
  subst hg' hu'
  exact ⟨he, hs⟩
/-- Where there is none the fraction is the zero value. -/
def NoZ (g : Fr × Bool) : Prop := g.2 = false → g = (fz, false)
theorem NoZ.out {f : Fr} (h : NoZ (f, false)) : f = fz := by
  have := h rfl; injection this
set_option maxHeartbeats 1000000 in
theorem keep_any (b : Nat) (v ok : Bool) (f : Fr) (hok : NoZ (f, ok)) (w : World) (hb0 : b < w.heap.size) (hc0 : w.cell? ⟨b, 0, none⟩ = some (.bool v)) (hf0 : w.frozen? ⟨b, 0, none⟩ = false) :
    Calls Tryd.prog 120 #[.pointer (some ⟨b, 0, none⟩), .agg #[.int .i64 f.re, .int .i64 f.im, .int .i64 f.den], .bool ok] w (SmOut b v (f, ok) w) := by
  cases ok
  · obtain rfl := hok.out
    have hne : ¬ b = w.heap.size := by omega
    go_enter Tryd.func120, Tryd.ntmps120
    go_wp2
    refine bodyPost_ret (v := .agg #[.int .i64 0, .int .i64 0, .int .i64 0]) (by simp [results, Tryd.results120, go_sem, *]) rfl (SmOut.mk (u := true) rfl (by show _ = _; simp) rfl (((Sm.refl hc0 hf0).set true |>.alloc hb0 _).alloc hb0 _))
  · go_enter Tryd.func120, Tryd.ntmps120
    go_wp2
    refine bodyPost_ret (v := .agg #[.int .i64 f.re, .int .i64 f.im, .int .i64 f.den]) (by simp [results, Tryd.results120, go_sem, *]) rfl (SmOut.mk (u := v) rfl (by show _ = _; simp) rfl (((Sm.refl hc0 hf0).alloc hb0 _).alloc hb0 _))
set_option maxHeartbeats 1000000 in
theorem stimes_any (b : Nat) (v : Bool) (p q : Fr) (w : World) (hb0 : b < w.heap.size) (hc0 : w.cell? ⟨b, 0, none⟩ = some (.bool v)) (hf0 : w.frozen? ⟨b, 0, none⟩ = false) :
    Calls Tryd.prog 80 #[.pointer (some ⟨b, 0, none⟩), .agg #[.int .i64 p.re, .int .i64 p.im, .int .i64 p.den], .agg #[.int .i64 q.re, .int .i64 q.im, .int .i64 q.den]] w (SmOut b v (fTimes p q) w) := by
  go_enter Tryd.func80, Tryd.ntmps80
  go_wp2_with (go_at_call 31; (with_reducible refine (times_fr _ _ _).mono ?_); rintro e w1 ⟨r, ok, H, rfl, hb⟩; obtain ⟨hc, hf, hz⟩ := bcellk (B := w.heap.size + 1 + 1 + 1) hb (by first | omega | (simp <;> omega)); have hs1 : Sm b v w w1 := Sm.of_below (by (repeat' first | exact Below.refl _ _ | apply bl_alloc | apply bl_drewN | apply bl_drew | refine bl_trans ?_ (by assumption) | refine bl_set ?_ (by first | omega | (simp <;> omega)) _)) hb0 hc0 hf0; clear hb)
  refine (keep_any b v _ _ (by have := fTimes_no p q; rw [H.out] at this; exact this) _ (by omega) hs1.cell hs1.free).mono ?_
  rintro e w2 ⟨r', ok', u, H', hu, rfl, hs⟩
  obtain ⟨hc', hf', hz, hsc, hsf⟩ := hs.keepOwn (N := w.heap.size) (B := w.heap.size + 1 + 1 + 1) (by assumption) (by first | omega | (simp <;> omega)); have hr := fun o => hc' (w.heap.size + 1 + 1) o (by omega) (by omega); have hrf := fun o => hf' (w.heap.size + 1 + 1) o (by omega) (by omega); clear hc' hf'
  obtain ⟨rfl, rfl⟩ : r = r' ∧ ok = ok' := by have := H'.out; injection this with h1 h2; exact ⟨h1, h2⟩
  clear H'
  have hs2 := hs1.trans hs
  clear hs hs1
  go_wp2
  refine bodyPost_ret (v := .agg #[.int .i64 r.re, .int .i64 r.im, .int .i64 r.den]) (by simp [results, Tryd.results80, go_sem, *]) rfl (SmOut.mk H hu rfl ?_)
  (repeat' first | assumption | exact Below.refl _ _ | exact Nat.le_refl _ | apply Sm.drewN | apply Sm.alloc | refine Sm.setOwn ?_ (by first | omega | (simp <;> omega)) (by assumption) _ )
set_option maxHeartbeats 1000000 in
theorem sadd_any (b : Nat) (v : Bool) (p q : Fr) (w : World) (hb0 : b < w.heap.size) (hc0 : w.cell? ⟨b, 0, none⟩ = some (.bool v)) (hf0 : w.frozen? ⟨b, 0, none⟩ = false) :
    Calls Tryd.prog 77 #[.pointer (some ⟨b, 0, none⟩), .agg #[.int .i64 p.re, .int .i64 p.im, .int .i64 p.den], .agg #[.int .i64 q.re, .int .i64 q.im, .int .i64 q.den]] w (SmOut b v (fAdd p q) w) := by
  go_enter Tryd.func77, Tryd.ntmps77
  go_wp2_with (go_at_call 121; (with_reducible refine (add_fr _ _ _).mono ?_); rintro e w1 ⟨r, ok, H, rfl, hb⟩; obtain ⟨hc, hf, hz⟩ := bcellk (B := w.heap.size + 1 + 1 + 1) hb (by first | omega | (simp <;> omega)); have hs1 : Sm b v w w1 := Sm.of_below (by (repeat' first | exact Below.refl _ _ | apply bl_alloc | apply bl_drewN | apply bl_drew | refine bl_trans ?_ (by assumption) | refine bl_set ?_ (by first | omega | (simp <;> omega)) _)) hb0 hc0 hf0; clear hb)
  refine (keep_any b v _ _ (by have := fAdd_no p q; rw [H.out] at this; exact this) _ (by omega) hs1.cell hs1.free).mono ?_
  rintro e w2 ⟨r', ok', u, H', hu, rfl, hs⟩
  obtain ⟨hc', hf', hz, hsc, hsf⟩ := hs.keepOwn (N := w.heap.size) (B := w.heap.size + 1 + 1 + 1) (by assumption) (by first | omega | (simp <;> omega)); have hr := fun o => hc' (w.heap.size + 1 + 1) o (by omega) (by omega); have hrf := fun o => hf' (w.heap.size + 1 + 1) o (by omega) (by omega); clear hc' hf'
  obtain ⟨rfl, rfl⟩ : r = r' ∧ ok = ok' := by have := H'.out; injection this with h1 h2; exact ⟨h1, h2⟩
  clear H'
  have hs2 := hs1.trans hs
  clear hs hs1
  go_wp2
  refine bodyPost_ret (v := .agg #[.int .i64 r.re, .int .i64 r.im, .int .i64 r.den]) (by simp [results, Tryd.results77, go_sem, *]) rfl (SmOut.mk H hu rfl ?_)
  (repeat' first | assumption | exact Below.refl _ _ | exact Nat.le_refl _ | apply Sm.drewN | apply Sm.alloc | refine Sm.setOwn ?_ (by first | omega | (simp <;> omega)) (by assumption) _ )
set_option maxHeartbeats 1000000 in
theorem sless_any (b : Nat) (v : Bool) (p q : Fr) (w : World) (hb0 : b < w.heap.size) (hc0 : w.cell? ⟨b, 0, none⟩ = some (.bool v)) (hf0 : w.frozen? ⟨b, 0, none⟩ = false) :
    Calls Tryd.prog 79 #[.pointer (some ⟨b, 0, none⟩), .agg #[.int .i64 p.re, .int .i64 p.im, .int .i64 p.den], .agg #[.int .i64 q.re, .int .i64 q.im, .int .i64 q.den]] w (SmOut b v (fLess p q) w) := by
  go_enter Tryd.func79, Tryd.ntmps79
  go_wp2_with (go_at_call 122; (with_reducible refine (less_fr _ _ _).mono ?_); rintro e w1 ⟨r, ok, H, rfl, hb⟩; obtain ⟨hc, hf, hz⟩ := bcellk (B := w.heap.size + 1 + 1 + 1) hb (by first | omega | (simp <;> omega)); have hs1 : Sm b v w w1 := Sm.of_below (by (repeat' first | exact Below.refl _ _ | apply bl_alloc | apply bl_drewN | apply bl_drew | refine bl_trans ?_ (by assumption) | refine bl_set ?_ (by first | omega | (simp <;> omega)) _)) hb0 hc0 hf0; clear hb)
  refine (keep_any b v _ _ (by have := fLess_no p q; rw [H.out] at this; exact this) _ (by omega) hs1.cell hs1.free).mono ?_
  rintro e w2 ⟨r', ok', u, H', hu, rfl, hs⟩
  obtain ⟨hc', hf', hz, hsc, hsf⟩ := hs.keepOwn (N := w.heap.size) (B := w.heap.size + 1 + 1 + 1) (by assumption) (by first | omega | (simp <;> omega)); have hr := fun o => hc' (w.heap.size + 1 + 1) o (by omega) (by omega); have hrf := fun o => hf' (w.heap.size + 1 + 1) o (by omega) (by omega); clear hc' hf'
  obtain ⟨rfl, rfl⟩ : r = r' ∧ ok = ok' := by have := H'.out; injection this with h1 h2; exact ⟨h1, h2⟩
  clear H'
  have hs2 := hs1.trans hs
  clear hs hs1
  go_wp2
  refine bodyPost_ret (v := .agg #[.int .i64 r.re, .int .i64 r.im, .int .i64 r.den]) (by simp [results, Tryd.results79, go_sem, *]) rfl (SmOut.mk H hu rfl ?_)
  (repeat' first | assumption | exact Below.refl _ _ | exact Nat.le_refl _ | apply Sm.drewN | apply Sm.alloc | refine Sm.setOwn ?_ (by first | omega | (simp <;> omega)) (by assumption) _ )
set_option maxHeartbeats 1000000 in
theorem smirror_any (b : Nat) (v : Bool) (p : Fr) (w : World) (hb0 : b < w.heap.size) (hc0 : w.cell? ⟨b, 0, none⟩ = some (.bool v)) (hf0 : w.frozen? ⟨b, 0, none⟩ = false) :
    Calls Tryd.prog 94 #[.pointer (some ⟨b, 0, none⟩), .agg #[.int .i64 p.re, .int .i64 p.im, .int .i64 p.den]] w (SmOut b v (fMirror p) w) := by
  go_enter Tryd.func94, Tryd.ntmps94
  go_wp2_with (go_at_call 125; (with_reducible refine (mirror_fr _ _).mono ?_); rintro e w1 ⟨r, ok, H, rfl, hb⟩; obtain ⟨hc, hf, hz⟩ := bcellk (B := w.heap.size + 1 + 1) hb (by first | omega | (simp <;> omega)); have hs1 : Sm b v w w1 := Sm.of_below (by (repeat' first | exact Below.refl _ _ | apply bl_alloc | apply bl_drewN | apply bl_drew | refine bl_trans ?_ (by assumption) | refine bl_set ?_ (by first | omega | (simp <;> omega)) _)) hb0 hc0 hf0; clear hb)
  refine (keep_any b v _ _ (by have := fMirror_no p; rw [H.out] at this; exact this) _ (by omega) hs1.cell hs1.free).mono ?_
  rintro e w2 ⟨r', ok', u, H', hu, rfl, hs⟩
  obtain ⟨hc', hf', hz, hsc, hsf⟩ := hs.keepOwn (N := w.heap.size) (B := w.heap.size + 1 + 1) (by assumption) (by first | omega | (simp <;> omega)); have hr := fun o => hc' (w.heap.size + 1) o (by omega) (by omega); have hrf := fun o => hf' (w.heap.size + 1) o (by omega) (by omega); clear hc' hf'
  obtain ⟨rfl, rfl⟩ : r = r' ∧ ok = ok' := by have := H'.out; injection this with h1 h2; exact ⟨h1, h2⟩
  clear H'
  have hs2 := hs1.trans hs
  clear hs hs1
  go_wp2
  refine bodyPost_ret (v := .agg #[.int .i64 r.re, .int .i64 r.im, .int .i64 r.den]) (by simp [results, Tryd.results94, go_sem, *]) rfl (SmOut.mk H hu rfl ?_)
  (repeat' first | assumption | exact Below.refl _ _ | exact Nat.le_refl _ | apply Sm.drewN | apply Sm.alloc | refine Sm.setOwn ?_ (by first | omega | (simp <;> omega)) (by assumption) _ )
set_option maxHeartbeats 1000000 in
theorem spower_any (b : Nat) (v : Bool) (p : Fr) (w : World) (hb0 : b < w.heap.size) (hc0 : w.cell? ⟨b, 0, none⟩ = some (.bool v)) (hf0 : w.frozen? ⟨b, 0, none⟩ = false) :
    Calls Tryd.prog 89 #[.pointer (some ⟨b, 0, none⟩), .agg #[.int .i64 p.re, .int .i64 p.im, .int .i64 p.den]] w (SmOut b v (fPower p) w) := by
  go_enter Tryd.func89, Tryd.ntmps89
  go_wp2_with (go_at_call 33; (with_reducible refine (power_fr _ _).mono ?_); rintro e w1 ⟨r, ok, H, rfl, hb⟩; obtain ⟨hc, hf, hz⟩ := bcellk (B := w.heap.size + 1 + 1) hb (by first | omega | (simp <;> omega)); have hs1 : Sm b v w w1 := Sm.of_below (by (repeat' first | exact Below.refl _ _ | apply bl_alloc | apply bl_drewN | apply bl_drew | refine bl_trans ?_ (by assumption) | refine bl_set ?_ (by first | omega | (simp <;> omega)) _)) hb0 hc0 hf0; clear hb)
  refine (keep_any b v _ _ (by have := fPower_no p; rw [H.out] at this; exact this) _ (by omega) hs1.cell hs1.free).mono ?_
  rintro e w2 ⟨r', ok', u, H', hu, rfl, hs⟩
  obtain ⟨hc', hf', hz, hsc, hsf⟩ := hs.keepOwn (N := w.heap.size) (B := w.heap.size + 1 + 1) (by assumption) (by first | omega | (simp <;> omega)); have hr := fun o => hc' (w.heap.size + 1) o (by omega) (by omega); have hrf := fun o => hf' (w.heap.size + 1) o (by omega) (by omega); clear hc' hf'
  obtain ⟨rfl, rfl⟩ : r = r' ∧ ok = ok' := by have := H'.out; injection this with h1 h2; exact ⟨h1, h2⟩
  clear H'
  have hs2 := hs1.trans hs
  clear hs hs1
  go_wp2
  refine bodyPost_ret (v := .agg #[.int .i64 r.re, .int .i64 r.im, .int .i64 r.den]) (by simp [results, Tryd.results89, go_sem, *]) rfl (SmOut.mk H hu rfl ?_)
  (repeat' first | assumption | exact Below.refl _ _ | exact Nat.le_refl _ | apply Sm.drewN | apply Sm.alloc | refine Sm.setOwn ?_ (by first | omega | (simp <;> omega)) (by assumption) _ )
/-- What need hands back: the reckoning itself. -/
def NeedOut (b : Nat) (v ok : Bool) (w : World) (e : Ending) (w' : World) : Prop :=
  ∃ u, Hid (u = (v || !ok)) ∧ e = .returned (.pointer (some ⟨b, 0, none⟩)) ∧ Sm b u w w'
theorem NeedOut.fn {b : Nat} {v ok : Bool} {w w' : World} {e : Ending} (h : NeedOut b v ok w e w') : e = .returned (.pointer (some ⟨b, 0, none⟩)) ∧ Sm b (v || !ok) w w' := by
  obtain ⟨u, hu, he, hs⟩ := h
  have hu' := hu.out
  subst hu'
  exact ⟨he, hs⟩
theorem NeedOut.mk {b : Nat} {v ok u : Bool} {w w' : World} {e : Ending} (hu : Hid (u = (v || !ok))) (he : e = .returned (.pointer (some ⟨b, 0, none⟩))) (hs : Sm b u w w') : NeedOut b v ok w e w' := ⟨u, hu, he, hs⟩
set_option maxHeartbeats 1000000 in
theorem need_any (b : Nat) (v ok : Bool) (w : World) (_hb0 : b < w.heap.size) (hc0 : w.cell? ⟨b, 0, none⟩ = some (.bool v)) (hf0 : w.frozen? ⟨b, 0, none⟩ = false) :
    Calls Tryd.prog 85 #[.pointer (some ⟨b, 0, none⟩), .bool ok] w (NeedOut b v ok w) := by
  cases ok
  · go_enter Tryd.func85, Tryd.ntmps85
    go_wp2
    go_ret
    exact NeedOut.mk (u := true) (by show _ = _; simp) rfl ((Sm.refl hc0 hf0).set true)
  · go_enter Tryd.func85, Tryd.ntmps85
    go_wp2
    go_ret
    exact NeedOut.mk (u := v) (by show _ = _; simp) rfl (Sm.refl hc0 hf0)
set_option maxHeartbeats 1000000 in
theorem gotStokes_no (b : Nat) (x : M4) (w : World) (hb0 : b < w.heap.size) (hc0 : w.cell? ⟨b, 0, none⟩ = some (.bool true)) :
    Calls Tryd.prog 95 #[.pointer (some ⟨b, 0, none⟩), .agg #[.int .i64 x.a.re, .int .i64 x.a.im, .int .i64 x.a.den, .int .i64 x.b.re, .int .i64 x.b.im, .int .i64 x.b.den, .int .i64 x.c.re, .int .i64 x.c.im, .int .i64 x.c.den, .int .i64 x.d.re, .int .i64 x.d.im, .int .i64 x.d.den]] w fun e w' => e = .returned (.tuple #[.agg #[.int .i64 0, .int .i64 0, .int .i64 0, .int .i64 0, .int .i64 0, .int .i64 0, .int .i64 0, .int .i64 0, .int .i64 0, .int .i64 0, .int .i64 0, .int .i64 0], .bool false]) ∧ Below w.heap.size w w' := by
  have hne : ¬ b = w.heap.size := by omega
  have hne1 : ¬ b = w.heap.size + 1 := by omega
  go_enter Tryd.func95, Tryd.ntmps95
  go_wp2
  refine bodyPost_ret (v := .tuple #[.agg #[.int .i64 0, .int .i64 0, .int .i64 0, .int .i64 0, .int .i64 0, .int .i64 0, .int .i64 0, .int .i64 0, .int .i64 0, .int .i64 0, .int .i64 0, .int .i64 0], .bool false]) (by simp [results, Tryd.results95, go_sem, *]) rfl ⟨rfl, ?_⟩
  (repeat' first | exact Below.refl _ _ | apply bl_alloc | apply bl_drewN | apply bl_drew | refine bl_trans ?_ (by assumption) | refine bl_set ?_ (by first | omega | (simp <;> omega)) _)
set_option maxHeartbeats 1000000 in
theorem gotStokes_yes (b : Nat) (x : M4) (w : World) (hb0 : b < w.heap.size) (hc0 : w.cell? ⟨b, 0, none⟩ = some (.bool false)) :
    Calls Tryd.prog 95 #[.pointer (some ⟨b, 0, none⟩), .agg #[.int .i64 x.a.re, .int .i64 x.a.im, .int .i64 x.a.den, .int .i64 x.b.re, .int .i64 x.b.im, .int .i64 x.b.den, .int .i64 x.c.re, .int .i64 x.c.im, .int .i64 x.c.den, .int .i64 x.d.re, .int .i64 x.d.im, .int .i64 x.d.den]] w fun e w' => e = .returned (.tuple #[.agg #[.int .i64 x.a.re, .int .i64 x.a.im, .int .i64 x.a.den, .int .i64 x.b.re, .int .i64 x.b.im, .int .i64 x.b.den, .int .i64 x.c.re, .int .i64 x.c.im, .int .i64 x.c.den, .int .i64 x.d.re, .int .i64 x.d.im, .int .i64 x.d.den], .bool true]) ∧ Below w.heap.size w w' := by
  have hne : ¬ b = w.heap.size := by omega
  have hne1 : ¬ b = w.heap.size + 1 := by omega
  go_enter Tryd.func95, Tryd.ntmps95
  go_wp2
  refine bodyPost_ret (v := .tuple #[.agg #[.int .i64 x.a.re, .int .i64 x.a.im, .int .i64 x.a.den, .int .i64 x.b.re, .int .i64 x.b.im, .int .i64 x.b.den, .int .i64 x.c.re, .int .i64 x.c.im, .int .i64 x.c.den, .int .i64 x.d.re, .int .i64 x.d.im, .int .i64 x.d.den], .bool true]) (by simp [results, Tryd.results95, go_sem, *]) rfl ⟨rfl, ?_⟩
  (repeat' first | exact Below.refl _ _ | apply bl_alloc | apply bl_drewN | apply bl_drew | refine bl_trans ?_ (by assumption) | refine bl_set ?_ (by first | omega | (simp <;> omega)) _)
end Go.Proofs.YtmcokdiopcpifaaDoor
