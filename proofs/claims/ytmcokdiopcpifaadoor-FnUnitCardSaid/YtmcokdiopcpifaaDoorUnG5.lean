/- Contracts of the reference: ranges, greatest common divisors, lowest terms, valid fractions. -/
import Derived.Test.YtmcokdiopcpifaaDoorUnG1
import Derived.Deep.MidRow
import Derived.Laws.Rows
import Derived.Test.YtmcokdiopcpifaaDoorUnD
import Derived.Test.YtmcokdiopcpifaaDoorUnPlain
import Derived.Test.YtmcokdiopcpifaaDoorUnF
set_option maxRecDepth 100000
namespace Go.Proofs.YtmcokdiopcpifaaDoor
open Go.RowKit Pol
theorem l6In_any (n lo hi : Int) (w : World) :
    Calls Tryd.prog 61 #[.int .i64 n, .int .i64 lo, .int .i64 hi] w fun e w' => e = .returned (.bool (wi n lo hi)) ∧ w = w' := by
  unfold wi
  go_enter Tryd.func61, Tryd.ntmps61
  go_wp2
  all_goals go_ret
  all_goals (simp [*]; try omega)
theorem l6In_b {n lo hi : Int} {b : Bool} (h : wi n lo hi = b) (w : World) :
    Calls Tryd.prog 61 #[.int .i64 n, .int .i64 lo, .int .i64 hi] w fun e w' => e = .returned (.bool b) ∧ w = w' :=
  (l6In_any n lo hi w).mono fun _ _ g => ⟨by rw [← h]; exact g.1, g.2⟩
end Go.Proofs.YtmcokdiopcpifaaDoor
namespace Go.Proofs.YtmcokdiopcpifaaDoor
open Go.RowKit Pol
/-- Block N holds the n fractions g from offset 0 on. -/
def BoxAt (w : World) (N : Nat) (g : Nat → Fr) (n : Nat) : Prop :=
  ∀ k, k < n → w.cell? ⟨N, k * 3, none⟩ = some (.int .i64 (g k).re) ∧ w.cell? ⟨N, k * 3 + 1, none⟩ = some (.int .i64 (g k).im) ∧ w.cell? ⟨N, k * 3 + 2, none⟩ = some (.int .i64 (g k).den)
/-- Block N has n places for fractions that may be written. -/
def Room (w : World) (N n : Nat) : Prop := ∀ j, j < n * 3 → (w.cell? ⟨N, j, none⟩).isSome = true ∧ w.frozen? ⟨N, j, none⟩ = false
theorem BoxAt.below {w w' : World} {N n : Nat} {g : Nat → Fr} (h : BoxAt w N g n) {B : Nat} (hb : Below B w w') (hN : N < B) : BoxAt w' N g n := fun k hk =>
  ⟨(hb.cell (p := ⟨N, _, none⟩) hN).trans (h k hk).1, (hb.cell (p := ⟨N, _, none⟩) hN).trans (h k hk).2.1, (hb.cell (p := ⟨N, _, none⟩) hN).trans (h k hk).2.2⟩
theorem Room.below {w w' : World} {N n : Nat} (h : Room w N n) {B : Nat} (hb : Below B w w') (hN : N < B) : Room w' N n := fun j hj =>
  ⟨by rw [hb.cell (p := ⟨N, _, none⟩) hN]; exact (h j hj).1, by rw [hb.frozen (p := ⟨N, _, none⟩) hN]; exact (h j hj).2⟩
theorem Room.set {w : World} {N n : Nat} (h : Room w N n) (a : Addr) (v : Value) : Room (w.setCell a v) N n := fun j hj => by
  refine ⟨?_, by rw [World.frozen?_setCell]; exact (h j hj).2⟩
  by_cases e : a = ⟨N, j, none⟩
  · subst e; rw [World.cell?_setCell_same' _ _ _ (h j hj).1]; rfl
  · rw [World.cell?_setCell_other _ _ _ _ e]; exact (h j hj).1
/-- A store of a fraction at place k. -/
def putF (w : World) (N k : Nat) (f : Fr) : World := ((w.setCell ⟨N, k * 3, none⟩ (.int .i64 f.re)).setCell ⟨N, k * 3 + 1, none⟩ (.int .i64 f.im)).setCell ⟨N, k * 3 + 2, none⟩ (.int .i64 f.den)
theorem Room.put {w : World} {N n : Nat} (h : Room w N n) (M k : Nat) (f : Fr) : Room (putF w M k f) N n := ((h.set _ _).set _ _).set _ _
theorem putF_size (w : World) (N k : Nat) (f : Fr) : (putF w N k f).heap.size = w.heap.size := by simp [putF]
theorem BoxAt.put_other {w : World} {N n : Nat} {g : Nat → Fr} (h : BoxAt w N g n) {M : Nat} (hM : M ≠ N) (k : Nat) (f : Fr) : BoxAt (putF w M k f) N g n := fun j hj => by
  unfold putF
  have e : ∀ (w : World) (o p : Nat) (v : Value), (w.setCell ⟨M, o, none⟩ v).cell? ⟨N, p, none⟩ = w.cell? ⟨N, p, none⟩ := fun w o p v => World.cell?_setCell_far _ _ _ _ hM
  simp only [e]; exact h j hj
theorem ne_off {N a b : Nat} (h : a ≠ b) : (⟨N, a, none⟩ : Addr) ≠ ⟨N, b, none⟩ := fun e => h (by injection e)
theorem BoxAt.put {w : World} {N n k : Nat} {g : Nat → Fr} (h : BoxAt w N g k) (r : Room w N n) (hk : k < n) : BoxAt (putF w N k (g k)) N g (k + 1) := by
  have same : ∀ (w : World) (o : Nat) (v : Value), Room w N n → o < n * 3 → (w.setCell ⟨N, o, none⟩ v).cell? ⟨N, o, none⟩ = some v := fun w o v r ho => World.cell?_setCell_same' _ _ _ (r o ho).1
  have oth : ∀ (w : World) (o p : Nat) (v : Value), o ≠ p → (w.setCell ⟨N, o, none⟩ v).cell? ⟨N, p, none⟩ = w.cell? ⟨N, p, none⟩ := fun w o p v hn => World.cell?_setCell_other _ _ _ _ (ne_off hn)
  intro j hj
  unfold putF
  by_cases e : j = k
  · subst e
    refine ⟨?_, ?_, ?_⟩
    · rw [oth _ _ _ _ (by omega), oth _ _ _ _ (by omega), same _ _ _ r (by omega)]
    · rw [oth _ _ _ _ (by omega), same _ _ _ (r.set _ _) (by omega)]
    · rw [same _ _ _ ((r.set _ _).set _ _) (by omega)]
  · have hj' : j < k := by omega
    obtain ⟨h1, h2, h3⟩ := h j hj'
    refine ⟨?_, ?_, ?_⟩ <;> rw [oth _ _ _ _ (by omega), oth _ _ _ _ (by omega), oth _ _ _ _ (by omega)] <;> assumption
theorem Room.new (w : World) (cs : Array Value) (t : TypeId) (n : Nat) (h : cs.size = n * 3) : Room (w.alloc (.cells cs t)) w.heap.size n := fun j hj => by
  have hh := heap_alloc_new w (.cells cs t)
  refine ⟨?_, ?_⟩
  · rw [cell_of_row _ _ j cs t _ hh]; simp; omega
  · exact frozen_of_row _ _ j cs t hh
theorem BoxAt.new (w : World) (cs : Array Value) (t : TypeId) (g : Nat → Fr) (n : Nat) (h : ∀ k, k < n → cs[k * 3]? = some (.int .i64 (g k).re) ∧ cs[k * 3 + 1]? = some (.int .i64 (g k).im) ∧ cs[k * 3 + 2]? = some (.int .i64 (g k).den)) : BoxAt (w.alloc (.cells cs t)) w.heap.size g n := fun k hk => by
  have hh := heap_alloc_new w (.cells cs t)
  rw [cell_of_row _ _ _ cs t _ hh, cell_of_row _ _ _ cs t _ hh, cell_of_row _ _ _ cs t _ hh]
  exact h k hk
theorem BoxAt.new' {w : World} {N n : Nat} {cs : Array Value} {t : TypeId} {g : Nat → Fr} (hN : w.heap.size = N) (h : ∀ k, k < n → cs[k * 3]? = some (.int .i64 (g k).re) ∧ cs[k * 3 + 1]? = some (.int .i64 (g k).im) ∧ cs[k * 3 + 2]? = some (.int .i64 (g k).den)) : BoxAt (w.alloc (.cells cs t)) N g n := hN ▸ BoxAt.new w cs t g n h
theorem Room.new' {w : World} {N n : Nat} {cs : Array Value} {t : TypeId} (hN : w.heap.size = N) (h : cs.size = n * 3) : Room (w.alloc (.cells cs t)) N n := hN ▸ Room.new w cs t n h
theorem BoxAt.alloc {w : World} {N n : Nat} {g : Nat → Fr} (h : BoxAt w N g n) (hN : N < w.heap.size) (o : Obj) : BoxAt (w.alloc o) N g n := h.below ((Below.refl w.heap.size w).alloc (Nat.le_refl _) o) hN
theorem Room.alloc {w : World} {N n : Nat} (h : Room w N n) (hN : N < w.heap.size) (o : Obj) : Room (w.alloc o) N n := h.below ((Below.refl w.heap.size w).alloc (Nat.le_refl _) o) hN
/-- The relation of the loop that copies n fractions. -/
structure TRel (W : World) (g : Nat → Fr) (n k : Nat) (wr : World) : Prop where
  le : k ≤ n
  below : Below W.heap.size W wr
  size : W.heap.size + 1 + 1 + 1 ≤ wr.heap.size
  src : BoxAt wr W.heap.size g n
  room : Room wr (W.heap.size + 1 + 1) n
  out : BoxAt wr (W.heap.size + 1 + 1) g k
  res : Room wr (W.heap.size + 1) n
theorem TRel.step {W wr w1 : World} {g : Nat → Fr} {n k : Nat} (h : TRel W g n k wr) (hk : k < n) (hb : Below wr.heap.size wr w1) : TRel W g n (k + 1) (putF w1 (W.heap.size + 1 + 1) k (g k)) := by
  have hs := h.size
  refine ⟨hk, ?_, ?_, ?_, ?_, ?_, ?_⟩
  · have := h.below.trans (hb.mono h.below.size)
    exact ((this.setCell (by show _ ≤ W.heap.size + 1 + 1; omega) _).setCell (by show _ ≤ W.heap.size + 1 + 1; omega) _).setCell (by show _ ≤ W.heap.size + 1 + 1; omega) _
  · rw [putF_size]; exact Nat.le_trans hs hb.size
  · exact (h.src.below hb (by omega)).put_other (by omega) k _
  · exact (h.room.below hb (by omega)).put _ _ _
  · exact (h.out.below hb (by omega)).put (h.room.below hb (by omega)) hk
  · exact (h.res.below hb (by omega)).put _ _ _
/-- The cells of the first n fractions. -/
def cl (g : Nat → Fr) : Nat → List Value
  | 0 => []
  | n + 1 => cl g n ++ [.int .i64 (g n).re, .int .i64 (g n).im, .int .i64 (g n).den]
theorem cl_len (g : Nat → Fr) : ∀ n, (cl g n).length = n * 3
  | 0 => rfl
  | n + 1 => by simp [cl, cl_len g n]; omega
theorem cl_one (g : Nat → Fr) (n : Nat) : (cl g n).toArray.all (·.oneCell') = true := all_oneCell_toArray (fun v hv => by
  induction n with
  | zero => simp [cl] at hv
  | succ n ih =>
    simp only [cl, List.mem_append, List.mem_cons, List.not_mem_nil, or_false] at hv
    rcases hv with hv | rfl | rfl | rfl
    · exact ih hv
    all_goals rfl)
theorem Room.thereC {w : World} {N n : Nat} (g : Nat → Fr) (h : Room w N n) : w.there N 0 (cl g n).toArray.size := fun j hj => by rw [Nat.zero_add]; exact h j (by simpa [cl_len] using hj)
theorem BoxAt.range {w : World} {N : Nat} {g : Nat → Fr} : ∀ {n : Nat}, BoxAt w N g n → w.rangeAt N 0 (cl g n)
  | 0, _ => fun j v hv => by simp [cl] at hv
  | n + 1, h => fun j v hv => by
    have hl := cl_len g n
    rw [Nat.zero_add]
    have hv' : (cl g n ++ [.int .i64 (g n).re, .int .i64 (g n).im, .int .i64 (g n).den])[j]? = some v := hv
    by_cases hj : j < n * 3
    · rw [List.getElem?_append_left (by omega)] at hv'
      have := BoxAt.range (n := n) (fun k hk => h k (by omega)) j v hv'
      rwa [Nat.zero_add] at this
    · rw [List.getElem?_append_right (by omega), hl] at hv'
      obtain ⟨h1, h2, h3⟩ := h n (by omega)
      have hj3 : j - n * 3 < 3 := by
        rcases Nat.lt_or_ge (j - n * 3) 3 with h' | h'
        · exact h'
        · rw [List.getElem?_eq_none (by simp; omega)] at hv'; cases hv'
      have : j - n * 3 = 0 ∨ j - n * 3 = 1 ∨ j - n * 3 = 2 := by omega
      rcases this with e | e | e
      · rw [e] at hv'; rw [show j = n * 3 by omega, h1]; simpa using hv'
      · rw [e] at hv'; rw [show j = n * 3 + 1 by omega, h2]; simpa using hv'
      · rw [e] at hv'; rw [show j = n * 3 + 2 by omega, h3]; simpa using hv'
theorem Room.there {w : World} {N n : Nat} (h : Room w N n) : w.there N 0 (n * 3) := fun j hj => by rw [Nat.zero_add]; exact h j hj
theorem results_cell_mid {P : Program} {fn : Func} {p : Tmp} {ty : TypeId} (h : fn.results = #[.cell p ty]) (tmps : Array Value) (w : World) (g : Nat) (cs : List Value) (d : TypeDesc)
    (hp : tmps.getD p undef = .pointer (some ⟨g, 0, none⟩)) (hc : w.rangeAt g 0 cs) (hu : P.underlying ty = some d) (hd : d.isRow = true) (hi : (P.info? ty).map (·.size) = some cs.length) :
    (results fn tmps).run P w = .ok (.agg cs.toArray) w := by
  have hp' : tmps[p]?.getD undef = .pointer (some ⟨g, 0, none⟩) := by simpa using hp
  simp [results, h, hp', asAddr, run_loadVar_mid w g 0 ty cs d hc hu hd hi]
theorem setCells_below (g : Nat) : ∀ (vs : List Value) (o : Nat) {B : Nat} {a w : World}, Below B a w → B ≤ g → Below B a (w.setCells g o vs)
  | [], _, _, _, _, h, _ => h
  | v :: vs, o, _, _, _, h, hg => setCells_below g vs (o + 1) (h.setCell (p := ⟨g, o, none⟩) hg v) hg
theorem rangeAt_new (w : World) (L : List Value) (t : TypeId) : (w.alloc (.cells L.toArray t)).rangeAt w.heap.size 0 L := fun j v hv => by
  rw [Nat.zero_add, cell_of_row _ _ j L.toArray t _ (heap_alloc_new w _)]; simpa using hv
theorem rangeAt_below {w w' : World} {N o B : Nat} {L : List Value} (h : w.rangeAt N o L) (hb : Below B w w') (hN : N < B) : w'.rangeAt N o L := fun j v hv => (hb.cell (p := ⟨N, _, none⟩) hN).trans (h j v hv)
theorem cl4 (m : M4) : (cl m.get 4).toArray = #[.int .i64 m.a.re, .int .i64 m.a.im, .int .i64 m.a.den, .int .i64 m.b.re, .int .i64 m.b.im, .int .i64 m.b.den, .int .i64 m.c.re, .int .i64 m.c.im, .int .i64 m.c.den, .int .i64 m.d.re, .int .i64 m.d.im, .int .i64 m.d.den] := by kernel_rfl
end Go.Proofs.YtmcokdiopcpifaaDoor
namespace Go.Proofs.YtmcokdiopcpifaaDoor
open Go.RowKit Pol
theorem Room.own {w w1 : World} {B n R : Nat} (h : Room w B n) (hO : Own R w w1) (hB : B < w.heap.size) (hne : B ≠ R) : Room w1 B n := fun j hj => by
  rw [hO.cell hB hne, hO.frozen hB hne]; exact h j hj
theorem BoxAt.own {w w1 : World} {B n R : Nat} {g : Nat → Fr} (h : BoxAt w B g n) (hO : Own R w w1) (hB : B < w.heap.size) (hne : B ≠ R) : BoxAt w1 B g n := fun k hk => by
  rw [hO.cell hB hne, hO.cell hB hne, hO.cell hB hne]; exact h k hk
end Go.Proofs.YtmcokdiopcpifaaDoor
namespace Pol
def m4z : M4 := ⟨fz, fz, fz, fz⟩
def j2z : J2 := ⟨fz, fz⟩
end Pol
namespace Pol
/-- A value, or its zero where something on the way is none. -/
def gt {α : Type} (z : α) (e : Bool) (x : α) : α × Bool := if e = true then (z, false) else (x, true)
theorem gt_no {α : Type} {z : α} {e : Bool} {x : α} (h : (gt z e x).2 = false) : gt z e x = (z, false) := by unfold gt at h ⊢; cases e <;> simp_all
theorem gt_end {α : Type} (z : α) (e : Bool) (x : α) : e = !(gt z e x).2 ∧ ((gt z e x).2 = true → x = (gt z e x).1) := by unfold gt; cases e <;> simp
theorem pair_t {α : Type} {g : α × Bool} (h : g.2 = true) : g = (g.1, true) := by cases g; simp_all
def jv (a : J2) : Bool := vld a.x && vld a.y
theorem jv_iff {a : J2} : jv a = true ↔ vld a.x = true ∧ vld a.y = true := by unfold jv; simp
end Pol
namespace Pol
def f2 : Fr := ⟨2, 0, 1⟩
def fReal (a : Fr) : Fr × Bool := if vld a = true then low a.re 0 a.den else (fz, false)
def fImag (a : Fr) : Fr × Bool := if vld a = true then low a.im 0 a.den else (fz, false)
theorem pair_eq {p q : Fr × Bool} (hp : p.2 = false → p = (fz, false)) (hq : q.2 = false → q = (fz, false)) (h : ∀ f, p = (f, true) ↔ q = (f, true)) : p = q := by
  cases h1 : p.2
  · cases h2 : q.2
    · rw [hp h1, hq h2]
    · have := (h q.1).2 (pair_t h2)
      rw [this] at h1; cases h1
  · exact ((h p.1).1 (pair_t h1) ▸ pair_t h1)
theorem low_small {n den : Int} (h0 : -2000000000 ≤ n) (h1 : n ≤ 2000000000) (d0 : 1 ≤ den) (d1 : den ≤ 2000000000) : (low n 0 den).2 = true := by
  unfold low
  have hb : lowB n 0 den = true := by
    rw [lowB_vld _ _ _ d0, vld_iff]
    obtain ⟨e1, e2, e3⟩ := cut_mul n 0 den
    have hg := g3_pos n 0 den d0
    have hc := cut_den_pos n 0 den d0
    have hx := cut_g3 n 0 den d0
    refine ⟨?_, ?_, ⟨hc, ?_⟩, hx⟩
    · have : (cut n 0 den).re.natAbs ≤ n.natAbs := by
        have := congrArg Int.natAbs e1
        rw [Int.natAbs_mul] at this
        have h3 : 1 ≤ (g3 n 0 den).natAbs := by omega
        calc (cut n 0 den).re.natAbs = (cut n 0 den).re.natAbs * 1 := by omega
          _ ≤ (cut n 0 den).re.natAbs * (g3 n 0 den).natAbs := Nat.mul_le_mul (Nat.le_refl _) h3
          _ = n.natAbs := this
      omega
    · have : (cut n 0 den).im = 0 := by
        rcases Int.mul_eq_zero.1 e2 with h | h
        · exact h
        · omega
      omega
    · have : (cut n 0 den).den.natAbs ≤ den.natAbs := by
        have := congrArg Int.natAbs e3
        rw [Int.natAbs_mul] at this
        have h3 : 1 ≤ (g3 n 0 den).natAbs := by omega
        calc (cut n 0 den).den.natAbs = (cut n 0 den).den.natAbs * 1 := by omega
          _ ≤ (cut n 0 den).den.natAbs * (g3 n 0 den).natAbs := Nat.mul_le_mul (Nat.le_refl _) h3
          _ = den.natAbs := this
      omega
  rw [if_pos hb]
theorem vld_f2 : vld f2 = true := by decide
theorem twice_low {n den : Int} (h0 : -2000000000 ≤ n) (h1 : n ≤ 2000000000) (d0 : 1 ≤ den) (d1 : den ≤ 2000000000) : fTimes f2 (low n 0 den).1 = low (2 * n) 0 den := by
  have hl := low_small h0 h1 d0 d1
  obtain ⟨hv, hr, hi⟩ := (low_ok d0).1 (pair_t hl)
  refine pair_eq (fTimes_no _ _) (low_no _ _ _) (fun f => ?_)
  rw [fTimes_ok, low_ok d0, hr, hi]
  have a1 : rv f2 = 2 := by show ((2 : Int) : Rat) / ((1 : Int) : Rat) = 2; grind
  have a2 : iv f2 = 0 := by show ((0 : Int) : Rat) / ((1 : Int) : Rat) = 0; grind
  rw [a1, a2]
  have e1 : (2 : Rat) * ((n : Rat) / (den : Rat)) - 0 * (((0 : Int) : Rat) / (den : Rat)) = ((2 * n : Int) : Rat) / (den : Rat) := by
    rw [Rat.zero_mul, Rat.sub_eq_add_neg, Rat.neg_zero, Rat.add_zero, Rat.intCast_mul, Rat.div_def, Rat.div_def, Rat.mul_assoc]; rfl
  have e2 : (2 : Rat) * (((0 : Int) : Rat) / (den : Rat)) + 0 * ((n : Rat) / (den : Rat)) = ((0 : Int) : Rat) / (den : Rat) := by
    have z : ((0 : Int) : Rat) / (den : Rat) = 0 := by rw [Rat.div_def]; exact Rat.zero_mul _
    rw [z, Rat.zero_mul, Rat.mul_zero, Rat.add_zero]
  rw [e1, e2]
  exact ⟨fun h => ⟨h.2.2.1, h.2.2.2.1, h.2.2.2.2⟩, fun h => ⟨vld_f2, hv, h⟩⟩
theorem fReal_y {a : Fr} (h : vld a = true) : (fReal a).2 = true ∧ fTimes f2 (fReal a).1 = low (2 * a.re) 0 a.den := by
  obtain ⟨h1, h2, h3, -⟩ := (vld_iff a).1 h
  unfold fReal
  rw [if_pos h]
  exact ⟨low_small h1.1 h1.2 h3.1 h3.2, twice_low h1.1 h1.2 h3.1 h3.2⟩
theorem fImag_y {a : Fr} (h : vld a = true) : (fImag a).2 = true ∧ fTimes f2 (fImag a).1 = low (2 * a.im) 0 a.den := by
  obtain ⟨h1, h2, h3, -⟩ := (vld_iff a).1 h
  unfold fImag
  rw [if_pos h]
  exact ⟨low_small h2.1 h2.2 h3.1 h3.2, twice_low h2.1 h2.2 h3.1 h3.2⟩
/-- The four numbers, the reference's way. -/
def sOf (a : J2) : M4 × Bool :=
  if ((fPower a.x).2 && (fPower a.y).2 && (fMirror a.y).2) = true then
    if ((fTimes a.x (fMirror a.y).1).2 && (fAdd (fPower a.x).1 (fPower a.y).1).2 && (fLess (fPower a.x).1 (fPower a.y).1).2) = true then
      if ((low (2 * (fTimes a.x (fMirror a.y).1).1.re) 0 (fTimes a.x (fMirror a.y).1).1.den).2 && (low (2 * (fTimes a.x (fMirror a.y).1).1.im) 0 (fTimes a.x (fMirror a.y).1).1.den).2) = true then
        (⟨(fAdd (fPower a.x).1 (fPower a.y).1).1, (fLess (fPower a.x).1 (fPower a.y).1).1, (low (2 * (fTimes a.x (fMirror a.y).1).1.re) 0 (fTimes a.x (fMirror a.y).1).1.den).1, (low (2 * (fTimes a.x (fMirror a.y).1).1.im) 0 (fTimes a.x (fMirror a.y).1).1.den).1⟩, true)
      else (m4z, false)
    else (m4z, false)
  else (m4z, false)
def sOfC (a : J2) : Fr := (fTimes a.x (fMirror a.y).1).1
def sOfE4 (a : J2) : Bool := (((((false || !jv a) || !(fPower a.x).2) || !(fPower a.y).2) || !(fMirror a.y).2) || !(fTimes a.x (fMirror a.y).1).2)
/-- The same, the program's way. -/
def sOfI (a : J2) : M4 × Bool :=
  gt m4z ((((((sOfE4 a || !(fAdd (fPower a.x).1 (fPower a.y).1).2) || !(fLess (fPower a.x).1 (fPower a.y).1).2) || !(fReal (sOfC a)).2) || !(fTimes f2 (fReal (sOfC a)).1).2) || !(fImag (sOfC a)).2) || !(fTimes f2 (fImag (sOfC a)).1).2)
    ⟨(fAdd (fPower a.x).1 (fPower a.y).1).1, (fLess (fPower a.x).1 (fPower a.y).1).1, (fTimes f2 (fReal (sOfC a)).1).1, (fTimes f2 (fImag (sOfC a)).1).1⟩
theorem sOfI_eq (a : J2) : sOfI a = sOf a := by
  unfold sOfI sOf gt sOfE4
  cases h1 : (fPower a.x).2
  · simp
  cases h2 : (fPower a.y).2
  · simp
  cases h3 : (fMirror a.y).2
  · simp
  have hv : jv a = true := jv_iff.2 ⟨(fPower_vld h1).1, (fPower_vld h2).1⟩
  cases h4 : (fTimes a.x (fMirror a.y).1).2
  · simp
  have hc := (fTimes_vld h4).2.2
  have hr := fReal_y (a := sOfC a) hc
  have hi := fImag_y (a := sOfC a) hc
  rw [hr.1, hi.1, hr.2, hi.2, hv]
  show _ = _
  cases h5 : (fAdd (fPower a.x).1 (fPower a.y).1).2
  · simp
  cases h6 : (fLess (fPower a.x).1 (fPower a.y).1).2
  · simp
  unfold sOfC
  cases h7 : (low (2 * (fTimes a.x (fMirror a.y).1).1.re) 0 (fTimes a.x (fMirror a.y).1).1.den).2
  · simp
  cases h8 : (low (2 * (fTimes a.x (fMirror a.y).1).1.im) 0 (fTimes a.x (fMirror a.y).1).1.den).2
  · simp
  simp
end Pol
namespace Go.Proofs.YtmcokdiopcpifaaDoor
open Go.RowKit Pol
/-- What a call hands back that makes four fractions. -/
def M4Out (g : M4 × Bool) (w : World) (e : Ending) (w' : World) : Prop :=
  e = .returned (.tuple #[.agg #[.int .i64 g.1.a.re, .int .i64 g.1.a.im, .int .i64 g.1.a.den, .int .i64 g.1.b.re, .int .i64 g.1.b.im, .int .i64 g.1.b.den, .int .i64 g.1.c.re, .int .i64 g.1.c.im, .int .i64 g.1.c.den, .int .i64 g.1.d.re, .int .i64 g.1.d.im, .int .i64 g.1.d.den], .bool g.2]) ∧ Below w.heap.size w w'
theorem M4Out.yes {g : M4 × Bool} {f : M4} {w w' : World} (h2 : g.2 = true) (h1 : f = g.1) (hb : Below w.heap.size w w') : M4Out g w (.returned (.tuple #[.agg #[.int .i64 f.a.re, .int .i64 f.a.im, .int .i64 f.a.den, .int .i64 f.b.re, .int .i64 f.b.im, .int .i64 f.b.den, .int .i64 f.c.re, .int .i64 f.c.im, .int .i64 f.c.den, .int .i64 f.d.re, .int .i64 f.d.im, .int .i64 f.d.den], .bool true])) w' :=
  ⟨by rw [h1, h2], hb⟩
theorem M4Out.no {g : M4 × Bool} {w w' : World} (h2 : g = (m4z, false)) (hb : Below w.heap.size w w') : M4Out g w (.returned (.tuple #[.agg #[.int .i64 0, .int .i64 0, .int .i64 0, .int .i64 0, .int .i64 0, .int .i64 0, .int .i64 0, .int .i64 0, .int .i64 0, .int .i64 0, .int .i64 0, .int .i64 0], .bool false])) w' :=
  ⟨by rw [h2]; rfl, hb⟩
theorem Room.sm {b : Nat} {v : Bool} {W w1 : World} {N n : Nat} (h : Room W N n) (hs : Sm b v W w1) (hN : N < W.heap.size) (hne : N ≠ b) : Room w1 N n := fun j hj =>
  ⟨by rw [hs.atc N hN hne]; exact (h j hj).1, by rw [hs.atf N hN hne]; exact (h j hj).2⟩
theorem results_cell_mid2 {P : Program} {fn : Func} {p u : Tmp} {ty : TypeId} (h : fn.results = #[.cell p ty, .tmp u]) (tmps : Array Value) (w : World) (g : Nat) (cs : List Value) (d : TypeDesc)
    (hp : tmps.getD p undef = .pointer (some ⟨g, 0, none⟩)) (hc : w.rangeAt g 0 cs) (hu : P.underlying ty = some d) (hd : d.isRow = true) (hi : (P.info? ty).map (·.size) = some cs.length) :
    (results fn tmps).run P w = .ok (.tuple #[.agg cs.toArray, tmps.getD u undef]) w := by
  have hp' : tmps[p]?.getD undef = .pointer (some ⟨g, 0, none⟩) := by simpa using hp
  simp [results, h, hp', asAddr, run_loadVar_mid w g 0 ty cs d hc hu hd hi]
end Go.Proofs.YtmcokdiopcpifaaDoor
namespace Go.Proofs.YtmcokdiopcpifaaDoor
open Go.RowKit Pol
theorem M4Out.fn {g : M4 × Bool} {w w' : World} {e : Ending} (h : M4Out g w e w') : e = .returned (.tuple #[.agg #[.int .i64 g.1.a.re, .int .i64 g.1.a.im, .int .i64 g.1.a.den, .int .i64 g.1.b.re, .int .i64 g.1.b.im, .int .i64 g.1.b.den, .int .i64 g.1.c.re, .int .i64 g.1.c.im, .int .i64 g.1.c.den, .int .i64 g.1.d.re, .int .i64 g.1.d.im, .int .i64 g.1.d.den], .bool g.2]) ∧ Below w.heap.size w w' := h
end Go.Proofs.YtmcokdiopcpifaaDoor
namespace Go.Proofs.YtmcokdiopcpifaaDoor
open Go.RowKit Pol
/-- The first k pass; the box holds the fractions; nothing that was there has turned. -/
def XRel (p : Fr → Bool) (g : Nat → Fr) (n : Nat) (W : World) (i : Value) (wr : World) : Prop := ∃ k : Nat, k ≤ n ∧ i = .int .i64 k ∧ Hid (apre p g k = true) ∧ Below W.heap.size W wr ∧ W.heap.size + 1 ≤ wr.heap.size ∧ BoxAt wr W.heap.size g n
theorem XRel.mk {p : Fr → Bool} {g : Nat → Fr} {n : Nat} {W wr : World} {i : Value} (k : Nat) (h : k ≤ n) (hi : i = .int .i64 k) (hp : apre p g k = true) (hb : Below W.heap.size W wr) (hs : W.heap.size + 1 ≤ wr.heap.size) (hx : BoxAt wr W.heap.size g n) : XRel p g n W i wr := ⟨k, h, hi, hp, hb, hs, hx⟩
end Go.Proofs.YtmcokdiopcpifaaDoor
namespace Go.Proofs.YtmcokdiopcpifaaDoor
open Go.RowKit Pol
/-- What a call hands back that makes a vector. -/
def J2Out (g : J2 × Bool) (w : World) (e : Ending) (w' : World) : Prop :=
  e = .returned (.tuple #[.agg #[.int .i64 g.1.x.re, .int .i64 g.1.x.im, .int .i64 g.1.x.den, .int .i64 g.1.y.re, .int .i64 g.1.y.im, .int .i64 g.1.y.den], .bool g.2]) ∧ Below w.heap.size w w'
theorem J2Out.yes {g : J2 × Bool} {f : J2} {w w' : World} (h2 : g.2 = true) (h1 : f = g.1) (hb : Below w.heap.size w w') : J2Out g w (.returned (.tuple #[.agg #[.int .i64 f.x.re, .int .i64 f.x.im, .int .i64 f.x.den, .int .i64 f.y.re, .int .i64 f.y.im, .int .i64 f.y.den], .bool true])) w' :=
  ⟨by rw [h1, h2], hb⟩
theorem J2Out.no {g : J2 × Bool} {w w' : World} (h2 : g = (j2z, false)) (hb : Below w.heap.size w w') : J2Out g w (.returned (.tuple #[.agg #[.int .i64 0, .int .i64 0, .int .i64 0, .int .i64 0, .int .i64 0, .int .i64 0], .bool false])) w' :=
  ⟨by rw [h2]; rfl, hb⟩
theorem J2Out.fn {g : J2 × Bool} {w w' : World} {e : Ending} (h : J2Out g w e w') : e = .returned (.tuple #[.agg #[.int .i64 g.1.x.re, .int .i64 g.1.x.im, .int .i64 g.1.x.den, .int .i64 g.1.y.re, .int .i64 g.1.y.im, .int .i64 g.1.y.den], .bool g.2]) ∧ Below w.heap.size w w' := h
theorem jv_no1 {a : J2} (h : vld a.x = false) : jv a = false := by unfold jv; rw [h]; rfl
theorem jv_y {a : J2} (h : vld a.x = true) : jv a = vld a.y := by unfold jv; rw [h]; rfl
set_option maxHeartbeats 2000000 in
theorem ijv_any (a : J2) (w : World) :
    Calls Tryd.prog 40 #[.agg #[.int .i64 a.x.re, .int .i64 a.x.im, .int .i64 a.x.den, .int .i64 a.y.re, .int .i64 a.y.im, .int .i64 a.y.den]] w fun e w' => e = .returned (.bool (jv a)) ∧ Below w.heap.size w w' := by
  cases hx : vld a.x
  · have HG := Lib.hid (jv_no1 hx)
    go_enter Tryd.func40, Tryd.ntmps40
    go_wp2_with (go_at_call 86; (with_reducible refine (valid_fb hx _).mono ?_); rintro e w1 ⟨rfl, hb⟩; have hb' := hb; obtain ⟨hc, hf, hz⟩ := bcellk (B := w.heap.size + 1) hb (by first | omega | (simp <;> omega)))
    go_ret
    exact ⟨ret_bool (by simp [HG.out]), by (repeat' first | exact Below.refl _ _ | apply bl_alloc | apply bl_drewN | apply bl_drew | refine bl_trans ?_ (by assumption) | refine bl_set ?_ (by first | omega | (simp <;> omega)) _)⟩
  · cases hy : vld a.y
    · have HG := Lib.hid ((jv_y hx).trans hy)
      go_enter Tryd.func40, Tryd.ntmps40
      go_wp2_with (go_at_call 86; (first | (with_reducible refine (valid_fb hx _).mono ?_) | (with_reducible refine (valid_fb hy _).mono ?_)); rintro e w1 ⟨rfl, hb⟩; have hb' := hb; obtain ⟨hc, hf, hz⟩ := bcellk (B := w.heap.size + 1) hb (by first | omega | (simp <;> omega)))
      go_ret
      exact ⟨ret_bool (by simp [HG.out]), by (repeat' first | exact Below.refl _ _ | apply bl_alloc | apply bl_drewN | apply bl_drew | refine bl_trans ?_ (by assumption) | refine bl_set ?_ (by first | omega | (simp <;> omega)) _)⟩
    · have HG := Lib.hid ((jv_y hx).trans hy)
      go_enter Tryd.func40, Tryd.ntmps40
      go_wp2_with (go_at_call 86; (first | (with_reducible refine (valid_fb hx _).mono ?_) | (with_reducible refine (valid_fb hy _).mono ?_)); rintro e w1 ⟨rfl, hb⟩; have hb' := hb; obtain ⟨hc, hf, hz⟩ := bcellk (B := w.heap.size + 1) hb (by first | omega | (simp <;> omega)))
      go_ret
      exact ⟨ret_bool (by simp [HG.out]), by (repeat' first | exact Below.refl _ _ | apply bl_alloc | apply bl_drewN | apply bl_drew | refine bl_trans ?_ (by assumption) | refine bl_set ?_ (by first | omega | (simp <;> omega)) _)⟩
end Go.Proofs.YtmcokdiopcpifaaDoor
namespace Go.Proofs.YtmcokdiopcpifaaDoor
open Go.RowKit Pol
theorem FrOut.is {g g' : Fr × Bool} {w w' : World} (h : g = g') (hb : Below w.heap.size w w') : FrOut g w (.returned (.tuple #[.agg #[.int .i64 g'.1.re, .int .i64 g'.1.im, .int .i64 g'.1.den], .bool g'.2])) w' := ⟨g'.1, g'.2, h, rfl, hb⟩
end Go.Proofs.YtmcokdiopcpifaaDoor
namespace Go.Proofs.YtmcokdiopcpifaaDoor
open Go.RowKit Pol
/-- Is it a direction? -/
def dirB (p q : Int) : Bool := wi p (-100) 100 && wi q (-100) 100 && !(decide (p = 0) && decide (q = 0))
def dC (p q : Int) : Fr := (low (p * p - q * q) 0 (p * p + q * q)).1
def dS (p q : Int) : Fr := (low (2 * p * q) 0 (p * p + q * q)).1
end Go.Proofs.YtmcokdiopcpifaaDoor
namespace Go.Proofs.YtmcokdiopcpifaaDoor
open Go.RowKit Pol
set_option maxHeartbeats 2000000 in
theorem sreal_any (b : Nat) (v : Bool) (p : Fr) (w : World) (hb0 : b < w.heap.size) (hc0 : w.cell? ⟨b, 0, none⟩ = some (.bool v)) (hf0 : w.frozen? ⟨b, 0, none⟩ = false) :
    Calls Tryd.prog 96 #[.pointer (some ⟨b, 0, none⟩), .agg #[.int .i64 p.re, .int .i64 p.im, .int .i64 p.den]] w (SmOut b v (fReal p) w) := by
  cases hv : vld p
  · have HG : Hid (fReal p = (fz, false)) := by show _ = _; unfold fReal; rw [hv]; rfl
    have hne : ¬ b = w.heap.size := by omega
    have hne1 : ¬ b = w.heap.size + 1 := by omega
    go_enter Tryd.func96, Tryd.ntmps96
    go_wp2_with (go_at_call 86; (with_reducible refine (valid_fb hv _).mono ?_); rintro e w1 ⟨rfl, hb⟩; obtain ⟨hc, hf, hz⟩ := bcellk (B := w.heap.size + 1 + 1) hb (by first | omega | (simp <;> omega)); have hs1 : Sm b v w w1 := Sm.of_below (by (repeat' first | exact Below.refl _ _ | apply bl_alloc | apply bl_drewN | apply bl_drew | refine bl_trans ?_ (by assumption) | refine bl_set ?_ (by first | omega | (simp <;> omega)) _)) hb0 hc0 hf0; have hsc := hs1.cell; have hsf := hs1.free; clear hb)
    refine bodyPost_ret (v := .agg #[.int .i64 0, .int .i64 0, .int .i64 0]) (by simp [results, Tryd.results96, go_sem, *]) rfl (SmOut.mk (u := true) HG (by show _ = _; simp) rfl ?_)
    repeat' first | exact hs1.set true | refine Sm.setOwn ?_ (by first | omega | (simp <;> omega)) (by assumption) _ | apply Sm.alloc | assumption
  · have HG : Hid (fReal p = low p.re 0 p.den) := by show _ = _; unfold fReal; rw [hv]; rfl
    obtain ⟨v1, v2, v3, -⟩ := (vld_iff p).1 hv
    go_enter Tryd.func96, Tryd.ntmps96
    go_wp2_with (first | (go_at_call 86; (with_reducible refine (valid_fb hv _).mono ?_); rintro e w1 ⟨rfl, hb⟩; obtain ⟨hc, hf, hz⟩ := bcellk (B := w.heap.size + 1 + 1) hb (by first | omega | (simp <;> omega)); have hs1 : Sm b v w w1 := Sm.of_below (by (repeat' first | exact Below.refl _ _ | apply bl_alloc | apply bl_drewN | apply bl_drew | refine bl_trans ?_ (by assumption) | refine bl_set ?_ (by first | omega | (simp <;> omega)) _)) hb0 hc0 hf0; clear hb) | (go_at_call 87; (with_reducible refine (lowest_any _ _ _ (by omega) (by omega) (by omega) (by omega) (by omega) (by omega) _).mono ?_); rintro e w2 ⟨r, ok, H, rfl, hb⟩; have hs2 : Sm b v w w2 := hs1.below hb hb0; obtain ⟨hc, hf, hz⟩ := bcellk (B := w.heap.size + 1 + 1) hb (by first | omega | (simp <;> omega)); clear hb))
    refine (keep_any b v _ _ (by have := low_no p.re 0 p.den; rw [H.out] at this; exact this) _ (by omega) hs2.cell hs2.free).mono ?_
    rintro e w3 ⟨r', ok', u, H', hu, rfl, hs⟩
    obtain ⟨hc', hf', hz3, hsc, hsf⟩ := hs.keepOwn (N := w.heap.size) (B := w.heap.size + 1 + 1) (by assumption) (by first | omega | (simp <;> omega))
    have hr := fun o => hc' (w.heap.size + 1) o (by omega) (by omega)
    have hrf := fun o => hf' (w.heap.size + 1) o (by omega) (by omega)
    clear hc' hf'
    obtain ⟨rfl, rfl⟩ : r = r' ∧ ok = ok' := by have := H'.out; injection this with h1 h2; exact ⟨h1, h2⟩
    clear H'
    have hs3 := hs2.trans hs
    clear hs hs1
    go_wp2
    refine bodyPost_ret (v := .agg #[.int .i64 r.re, .int .i64 r.im, .int .i64 r.den]) (by simp [results, Tryd.results96, go_sem, *]) rfl (SmOut.mk (Lib.hid (HG.out.trans H.out)) hu rfl ?_)
    (repeat' first | assumption | exact Below.refl _ _ | exact Nat.le_refl _ | apply Sm.drewN | apply Sm.alloc | refine Sm.setOwn ?_ (by first | omega | (simp <;> omega)) (by assumption) _ )
set_option maxHeartbeats 2000000 in
theorem simag_any (b : Nat) (v : Bool) (p : Fr) (w : World) (hb0 : b < w.heap.size) (hc0 : w.cell? ⟨b, 0, none⟩ = some (.bool v)) (hf0 : w.frozen? ⟨b, 0, none⟩ = false) :
    Calls Tryd.prog 97 #[.pointer (some ⟨b, 0, none⟩), .agg #[.int .i64 p.re, .int .i64 p.im, .int .i64 p.den]] w (SmOut b v (fImag p) w) := by
  cases hv : vld p
  · have HG : Hid (fImag p = (fz, false)) := by show _ = _; unfold fImag; rw [hv]; rfl
    have hne : ¬ b = w.heap.size := by omega
    have hne1 : ¬ b = w.heap.size + 1 := by omega
    go_enter Tryd.func97, Tryd.ntmps97
    go_wp2_with (go_at_call 86; (with_reducible refine (valid_fb hv _).mono ?_); rintro e w1 ⟨rfl, hb⟩; obtain ⟨hc, hf, hz⟩ := bcellk (B := w.heap.size + 1 + 1) hb (by first | omega | (simp <;> omega)); have hs1 : Sm b v w w1 := Sm.of_below (by (repeat' first | exact Below.refl _ _ | apply bl_alloc | apply bl_drewN | apply bl_drew | refine bl_trans ?_ (by assumption) | refine bl_set ?_ (by first | omega | (simp <;> omega)) _)) hb0 hc0 hf0; have hsc := hs1.cell; have hsf := hs1.free; clear hb)
    refine bodyPost_ret (v := .agg #[.int .i64 0, .int .i64 0, .int .i64 0]) (by simp [results, Tryd.results97, go_sem, *]) rfl (SmOut.mk (u := true) HG (by show _ = _; simp) rfl ?_)
    repeat' first | exact hs1.set true | refine Sm.setOwn ?_ (by first | omega | (simp <;> omega)) (by assumption) _ | apply Sm.alloc | assumption
  · have HG : Hid (fImag p = low p.im 0 p.den) := by show _ = _; unfold fImag; rw [hv]; rfl
    obtain ⟨v1, v2, v3, -⟩ := (vld_iff p).1 hv
    go_enter Tryd.func97, Tryd.ntmps97
    go_wp2_with (first | (go_at_call 86; (with_reducible refine (valid_fb hv _).mono ?_); rintro e w1 ⟨rfl, hb⟩; obtain ⟨hc, hf, hz⟩ := bcellk (B := w.heap.size + 1 + 1) hb (by first | omega | (simp <;> omega)); have hs1 : Sm b v w w1 := Sm.of_below (by (repeat' first | exact Below.refl _ _ | apply bl_alloc | apply bl_drewN | apply bl_drew | refine bl_trans ?_ (by assumption) | refine bl_set ?_ (by first | omega | (simp <;> omega)) _)) hb0 hc0 hf0; clear hb) | (go_at_call 87; (with_reducible refine (lowest_any _ _ _ (by omega) (by omega) (by omega) (by omega) (by omega) (by omega) _).mono ?_); rintro e w2 ⟨r, ok, H, rfl, hb⟩; have hs2 : Sm b v w w2 := hs1.below hb hb0; obtain ⟨hc, hf, hz⟩ := bcellk (B := w.heap.size + 1 + 1) hb (by first | omega | (simp <;> omega)); clear hb))
    refine (keep_any b v _ _ (by have := low_no p.im 0 p.den; rw [H.out] at this; exact this) _ (by omega) hs2.cell hs2.free).mono ?_
    rintro e w3 ⟨r', ok', u, H', hu, rfl, hs⟩
    obtain ⟨hc', hf', hz3, hsc, hsf⟩ := hs.keepOwn (N := w.heap.size) (B := w.heap.size + 1 + 1) (by assumption) (by first | omega | (simp <;> omega))
    have hr := fun o => hc' (w.heap.size + 1) o (by omega) (by omega)
    have hrf := fun o => hf' (w.heap.size + 1) o (by omega) (by omega)
    clear hc' hf'
    obtain ⟨rfl, rfl⟩ : r = r' ∧ ok = ok' := by have := H'.out; injection this with h1 h2; exact ⟨h1, h2⟩
    clear H'
    have hs3 := hs2.trans hs
    clear hs hs1
    go_wp2
    refine bodyPost_ret (v := .agg #[.int .i64 r.re, .int .i64 r.im, .int .i64 r.den]) (by simp [results, Tryd.results97, go_sem, *]) rfl (SmOut.mk (Lib.hid (HG.out.trans H.out)) hu rfl ?_)
    (repeat' first | assumption | exact Below.refl _ _ | exact Nat.le_refl _ | apply Sm.drewN | apply Sm.alloc | refine Sm.setOwn ?_ (by first | omega | (simp <;> omega)) (by assumption) _ )
end Go.Proofs.YtmcokdiopcpifaaDoor
namespace Pol
/-- The flag after k places. -/
def fl (e : Bool) (f : Nat → Fr × Bool) : Nat → Bool
  | 0 => e
  | k + 1 => fl e f k || !(f k).2
def m4f (f : Nat → Fr × Bool) : M4 := ⟨(f 0).1, (f 1).1, (f 2).1, (f 3).1⟩
def m4l (e : Bool) (f : Nat → Fr × Bool) : M4 × Bool := gt m4z (fl e f 4) (m4f f)
theorem fl_false {e : Bool} {f : Nat → Fr × Bool} {n : Nat} : fl e f n = false ↔ e = false ∧ ∀ k, k < n → (f k).2 = true := by
  induction n with
  | zero => simp [fl]
  | succ n ih =>
    simp only [fl, Bool.or_eq_false_iff, Bool.not_eq_false', ih]
    constructor
    · rintro ⟨⟨h, h1⟩, h2⟩
      refine ⟨h, fun k hk => ?_⟩
      rcases Nat.lt_or_ge k n with h3 | h3
      · exact h1 k h3
      · obtain rfl : k = n := by omega
        exact h2
    · rintro ⟨h, h1⟩
      exact ⟨⟨h, fun k hk => h1 k (by omega)⟩, h1 n (by omega)⟩
theorem m4l_good {f : Nat → Fr × Bool} (h : ∀ k, k < 4 → (f k).2 = true) : m4l false f = (m4f f, true) := by
  unfold m4l gt; rw [fl_false.2 ⟨rfl, h⟩]; rfl
theorem m4f_get (f : Nat → Fr × Bool) {k : Nat} (hk : k < 4) : (m4f f).get k = (f k).1 := by
  have : k = 0 ∨ k = 1 ∨ k = 2 ∨ k = 3 := by omega
  rcases this with rfl | rfl | rfl | rfl <;> rfl
def sTimF (a : M4) (c : Fr) (k : Nat) : Fr × Bool := fTimes (a.get k) c
def sTim (a : M4) (c : Fr) : M4 × Bool := m4l (false || !(all4 realB a && realB c)) (sTimF a c)
end Pol
