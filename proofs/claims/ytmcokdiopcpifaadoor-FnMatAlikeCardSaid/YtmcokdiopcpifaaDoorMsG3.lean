/- Contracts of the laws' helpers: plain data to the program's types. -/
import Derived.Test.YtmcokdiopcpifaaDoorMsG1
import Derived.Deep.MidRow
import Derived.Laws.Rows
import Derived.Test.YtmcokdiopcpifaaDoorMsPlain
import Derived.Test.YtmcokdiopcpifaaDoorMsE
set_option maxRecDepth 100000
namespace Go.Proofs.YtmcokdiopcpifaaDoor
open Go.RowKit Pol
/-- Block N holds the n fractions g from offset 0 on. -/
def BoxAt (w : World) (N : Nat) (g : Nat → Fr) (n : Nat) : Prop :=
  ∀ k, k < n → w.cell? ⟨N, k * 3, none⟩ = some (.int .i64 (g k).re) ∧ w.cell? ⟨N, k * 3 + 1, none⟩ = some (.int .i64 (g k).im) ∧ w.cell? ⟨N, k * 3 + 2, none⟩ = some (.int .i64 (g k).den)
/-- Block N has n places for fractions that may be written. -/
def Room (w : World) (N n : Nat) : Prop := ∀ j, j < n * 3 → (w.cell? ⟨N, j, none⟩).isSome = true ∧ w.frozen? ⟨N, j, none⟩ = false
theorem BoxAt.below {w w' : World} {N n : Nat} {g : Nat → Fr} (h : BoxAt w N g n) {B : Nat} (hb : Below B w w') (hN : N < B) : BoxAt w' N g n := fun k hk =>
  ⟨(hb.cell (p := ⟨N, _, none⟩) hN).trans (h k hk).1, (hb.cell (p := ⟨N, _, none⟩) hN).trans (h k hk).2.1, (hb.cell (p := ⟨N, _, none⟩) hN).trans (h k hk).2.2⟩
theorem Room.below {w w' : World} {N n : Nat} (h : Room w N n) {B : Nat} (hb : Below B w w') (hN : N < B) : Room w' N n := fun j hj =>
  ⟨by rw [hb.cell (p := ⟨N, _, none⟩) hN]; exact (h j hj).1, by rw [hb.frozen (p := ⟨N, _, none⟩) hN]; exact (h j hj).2⟩
theorem Room.set {w : World} {N n : Nat} (h : Room w N n) (a : Addr) (v : Value) : Room (w.setCell a v) N n := fun j hj => by
  refine ⟨?_, by rw [World.frozen?_setCell]; exact (h j hj).2⟩
  by_cases e : a = ⟨N, j, none⟩
  · subst e; rw [World.cell?_setCell_same' _ _ _ (h j hj).1]; rfl
  · rw [World.cell?_setCell_other _ _ _ _ e]; exact (h j hj).1
/-- A store of a fraction at place k. -/
def putF (w : World) (N k : Nat) (f : Fr) : World := ((w.setCell ⟨N, k * 3, none⟩ (.int .i64 f.re)).setCell ⟨N, k * 3 + 1, none⟩ (.int .i64 f.im)).setCell ⟨N, k * 3 + 2, none⟩ (.int .i64 f.den)
theorem Room.put {w : World} {N n : Nat} (h : Room w N n) (M k : Nat) (f : Fr) : Room (putF w M k f) N n := ((h.set _ _).set _ _).set _ _
theorem putF_size (w : World) (N k : Nat) (f : Fr) : (putF w N k f).heap.size = w.heap.size := by simp [putF]
theorem BoxAt.put_other {w : World} {N n : Nat} {g : Nat → Fr} (h : BoxAt w N g n) {M : Nat} (hM : M ≠ N) (k : Nat) (f : Fr) : BoxAt (putF w M k f) N g n := fun j hj => by
  unfold putF
  have e : ∀ (w : World) (o p : Nat) (v : Value), (w.setCell ⟨M, o, none⟩ v).cell? ⟨N, p, none⟩ = w.cell? ⟨N, p, none⟩ := fun w o p v => World.cell?_setCell_far _ _ _ _ hM
  simp only [e]; exact h j hj
theorem ne_off {N a b : Nat} (h : a ≠ b) : (⟨N, a, none⟩ : Addr) ≠ ⟨N, b, none⟩ := fun e => h (by injection e)
theorem BoxAt.put {w : World} {N n k : Nat} {g : Nat → Fr} (h : BoxAt w N g k) (r : Room w N n) (hk : k < n) : BoxAt (putF w N k (g k)) N g (k + 1) := by
  have same : ∀ (w : World) (o : Nat) (v : Value), Room w N n → o < n * 3 → (w.setCell ⟨N, o, none⟩ v).cell? ⟨N, o, none⟩ = some v := fun w o v r ho => World.cell?_setCell_same' _ _ _ (r o ho).1
  have oth : ∀ (w : World) (o p : Nat) (v : Value), o ≠ p → (w.setCell ⟨N, o, none⟩ v).cell? ⟨N, p, none⟩ = w.cell? ⟨N, p, none⟩ := fun w o p v hn => World.cell?_setCell_other _ _ _ _ (ne_off hn)
  intro j hj
  unfold putF
  by_cases e : j = k
  · subst e
    refine ⟨?_, ?_, ?_⟩
    · rw [oth _ _ _ _ (by omega), oth _ _ _ _ (by omega), same _ _ _ r (by omega)]
    · rw [oth _ _ _ _ (by omega), same _ _ _ (r.set _ _) (by omega)]
    · rw [same _ _ _ ((r.set _ _).set _ _) (by omega)]
  · have hj' : j < k := by omega
    obtain ⟨h1, h2, h3⟩ := h j hj'
    refine ⟨?_, ?_, ?_⟩ <;> rw [oth _ _ _ _ (by omega), oth _ _ _ _ (by omega), oth _ _ _ _ (by omega)] <;> assumption
theorem Room.new (w : World) (cs : Array Value) (t : TypeId) (n : Nat) (h : cs.size = n * 3) : Room (w.alloc (.cells cs t)) w.heap.size n := fun j hj => by
  have hh := heap_alloc_new w (.cells cs t)
  refine ⟨?_, ?_⟩
  · rw [cell_of_row _ _ j cs t _ hh]; simp; omega
  · exact frozen_of_row _ _ j cs t hh
theorem BoxAt.new (w : World) (cs : Array Value) (t : TypeId) (g : Nat → Fr) (n : Nat) (h : ∀ k, k < n → cs[k * 3]? = some (.int .i64 (g k).re) ∧ cs[k * 3 + 1]? = some (.int .i64 (g k).im) ∧ cs[k * 3 + 2]? = some (.int .i64 (g k).den)) : BoxAt (w.alloc (.cells cs t)) w.heap.size g n := fun k hk => by
  have hh := heap_alloc_new w (.cells cs t)
  rw [cell_of_row _ _ _ cs t _ hh, cell_of_row _ _ _ cs t _ hh, cell_of_row _ _ _ cs t _ hh]
  exact h k hk
theorem BoxAt.new' {w : World} {N n : Nat} {cs : Array Value} {t : TypeId} {g : Nat → Fr} (hN : w.heap.size = N) (h : ∀ k, k < n → cs[k * 3]? = some (.int .i64 (g k).re) ∧ cs[k * 3 + 1]? = some (.int .i64 (g k).im) ∧ cs[k * 3 + 2]? = some (.int .i64 (g k).den)) : BoxAt (w.alloc (.cells cs t)) N g n := hN ▸ BoxAt.new w cs t g n h
theorem Room.new' {w : World} {N n : Nat} {cs : Array Value} {t : TypeId} (hN : w.heap.size = N) (h : cs.size = n * 3) : Room (w.alloc (.cells cs t)) N n := hN ▸ Room.new w cs t n h
theorem BoxAt.alloc {w : World} {N n : Nat} {g : Nat → Fr} (h : BoxAt w N g n) (hN : N < w.heap.size) (o : Obj) : BoxAt (w.alloc o) N g n := h.below ((Below.refl w.heap.size w).alloc (Nat.le_refl _) o) hN
theorem Room.alloc {w : World} {N n : Nat} (h : Room w N n) (hN : N < w.heap.size) (o : Obj) : Room (w.alloc o) N n := h.below ((Below.refl w.heap.size w).alloc (Nat.le_refl _) o) hN
/-- The relation of the loop that copies n fractions. -/
structure TRel (W : World) (g : Nat → Fr) (n k : Nat) (wr : World) : Prop where
  le : k ≤ n
  below : Below W.heap.size W wr
  size : W.heap.size + 1 + 1 + 1 ≤ wr.heap.size
  src : BoxAt wr W.heap.size g n
  room : Room wr (W.heap.size + 1 + 1) n
  out : BoxAt wr (W.heap.size + 1 + 1) g k
  res : Room wr (W.heap.size + 1) n
theorem TRel.step {W wr w1 : World} {g : Nat → Fr} {n k : Nat} (h : TRel W g n k wr) (hk : k < n) (hb : Below wr.heap.size wr w1) : TRel W g n (k + 1) (putF w1 (W.heap.size + 1 + 1) k (g k)) := by
  have hs := h.size
  refine ⟨hk, ?_, ?_, ?_, ?_, ?_, ?_⟩
  · have := h.below.trans (hb.mono h.below.size)
    exact ((this.setCell (by show _ ≤ W.heap.size + 1 + 1; omega) _).setCell (by show _ ≤ W.heap.size + 1 + 1; omega) _).setCell (by show _ ≤ W.heap.size + 1 + 1; omega) _
  · rw [putF_size]; exact Nat.le_trans hs hb.size
  · exact (h.src.below hb (by omega)).put_other (by omega) k _
  · exact (h.room.below hb (by omega)).put _ _ _
  · exact (h.out.below hb (by omega)).put (h.room.below hb (by omega)) hk
  · exact (h.res.below hb (by omega)).put _ _ _
/-- The cells of the first n fractions. -/
def cl (g : Nat → Fr) : Nat → List Value
  | 0 => []
  | n + 1 => cl g n ++ [.int .i64 (g n).re, .int .i64 (g n).im, .int .i64 (g n).den]
theorem cl_len (g : Nat → Fr) : ∀ n, (cl g n).length = n * 3
  | 0 => rfl
  | n + 1 => by simp [cl, cl_len g n]; omega
theorem cl_one (g : Nat → Fr) (n : Nat) : (cl g n).toArray.all (·.oneCell') = true := all_oneCell_toArray (fun v hv => by
  induction n with
  | zero => simp [cl] at hv
  | succ n ih =>
    simp only [cl, List.mem_append, List.mem_cons, List.not_mem_nil, or_false] at hv
    rcases hv with hv | rfl | rfl | rfl
    · exact ih hv
    all_goals rfl)
theorem Room.thereC {w : World} {N n : Nat} (g : Nat → Fr) (h : Room w N n) : w.there N 0 (cl g n).toArray.size := fun j hj => by rw [Nat.zero_add]; exact h j (by simpa [cl_len] using hj)
theorem BoxAt.range {w : World} {N : Nat} {g : Nat → Fr} : ∀ {n : Nat}, BoxAt w N g n → w.rangeAt N 0 (cl g n)
  | 0, _ => fun j v hv => by simp [cl] at hv
  | n + 1, h => fun j v hv => by
    have hl := cl_len g n
    rw [Nat.zero_add]
    have hv' : (cl g n ++ [.int .i64 (g n).re, .int .i64 (g n).im, .int .i64 (g n).den])[j]? = some v := hv
    by_cases hj : j < n * 3
    · rw [List.getElem?_append_left (by omega)] at hv'
      have := BoxAt.range (n := n) (fun k hk => h k (by omega)) j v hv'
      rwa [Nat.zero_add] at this
    · rw [List.getElem?_append_right (by omega), hl] at hv'
      obtain ⟨h1, h2, h3⟩ := h n (by omega)
      have hj3 : j - n * 3 < 3 := by
        rcases Nat.lt_or_ge (j - n * 3) 3 with h' | h'
        · exact h'
        · rw [List.getElem?_eq_none (by simp; omega)] at hv'; cases hv'
      have : j - n * 3 = 0 ∨ j - n * 3 = 1 ∨ j - n * 3 = 2 := by omega
      rcases this with e | e | e
      · rw [e] at hv'; rw [show j = n * 3 by omega, h1]; simpa using hv'
      · rw [e] at hv'; rw [show j = n * 3 + 1 by omega, h2]; simpa using hv'
      · rw [e] at hv'; rw [show j = n * 3 + 2 by omega, h3]; simpa using hv'
theorem Room.there {w : World} {N n : Nat} (h : Room w N n) : w.there N 0 (n * 3) := fun j hj => by rw [Nat.zero_add]; exact h j hj
theorem results_cell_mid {P : Program} {fn : Func} {p : Tmp} {ty : TypeId} (h : fn.results = #[.cell p ty]) (tmps : Array Value) (w : World) (g : Nat) (cs : List Value) (d : TypeDesc)
    (hp : tmps.getD p undef = .pointer (some ⟨g, 0, none⟩)) (hc : w.rangeAt g 0 cs) (hu : P.underlying ty = some d) (hd : d.isRow = true) (hi : (P.info? ty).map (·.size) = some cs.length) :
    (results fn tmps).run P w = .ok (.agg cs.toArray) w := by
  have hp' : tmps[p]?.getD undef = .pointer (some ⟨g, 0, none⟩) := by simpa using hp
  simp [results, h, hp', asAddr, run_loadVar_mid w g 0 ty cs d hc hu hd hi]
theorem setCells_below (g : Nat) : ∀ (vs : List Value) (o : Nat) {B : Nat} {a w : World}, Below B a w → B ≤ g → Below B a (w.setCells g o vs)
  | [], _, _, _, _, h, _ => h
  | v :: vs, o, _, _, _, h, hg => setCells_below g vs (o + 1) (h.setCell (p := ⟨g, o, none⟩) hg v) hg
theorem rangeAt_new (w : World) (L : List Value) (t : TypeId) : (w.alloc (.cells L.toArray t)).rangeAt w.heap.size 0 L := fun j v hv => by
  rw [Nat.zero_add, cell_of_row _ _ j L.toArray t _ (heap_alloc_new w _)]; simpa using hv
theorem rangeAt_below {w w' : World} {N o B : Nat} {L : List Value} (h : w.rangeAt N o L) (hb : Below B w w') (hN : N < B) : w'.rangeAt N o L := fun j v hv => (hb.cell (p := ⟨N, _, none⟩) hN).trans (h j v hv)
theorem cl4 (m : M4) : (cl m.get 4).toArray = #[.int .i64 m.a.re, .int .i64 m.a.im, .int .i64 m.a.den, .int .i64 m.b.re, .int .i64 m.b.im, .int .i64 m.b.den, .int .i64 m.c.re, .int .i64 m.c.im, .int .i64 m.c.den, .int .i64 m.d.re, .int .i64 m.d.im, .int .i64 m.d.den] := by kernel_rfl
end Go.Proofs.YtmcokdiopcpifaaDoor
namespace Go.Proofs.YtmcokdiopcpifaaDoor
open Go.RowKit Pol
theorem Room.own {w w1 : World} {B n R : Nat} (h : Room w B n) (hO : Own R w w1) (hB : B < w.heap.size) (hne : B ≠ R) : Room w1 B n := fun j hj => by
  rw [hO.cell hB hne, hO.frozen hB hne]; exact h j hj
theorem BoxAt.own {w w1 : World} {B n R : Nat} {g : Nat → Fr} (h : BoxAt w B g n) (hO : Own R w w1) (hB : B < w.heap.size) (hne : B ≠ R) : BoxAt w1 B g n := fun k hk => by
  rw [hO.cell hB hne, hO.cell hB hne, hO.cell hB hne]; exact h k hk
def FrP (v : Value) : Prop := ∃ f : Fr, v = .agg #[.int .i64 f.re, .int .i64 f.im, .int .i64 f.den]
def M4P (v : Value) : Prop := ∃ f : M4, v = .agg #[.int .i64 f.a.re, .int .i64 f.a.im, .int .i64 f.a.den, .int .i64 f.b.re, .int .i64 f.b.im, .int .i64 f.b.den, .int .i64 f.c.re, .int .i64 f.c.im, .int .i64 f.c.den, .int .i64 f.d.re, .int .i64 f.d.im, .int .i64 f.d.den]
set_option maxRecDepth 100000 in
set_option maxHeartbeats 8000000 in
theorem l91Frac_any {N R : Nat} {a0 : Option Addr} {len cap k : Nat} {w : World} (hk : k ≤ 90000) (h : Rd N R a0 len cap k w) :
    Calls Tryd.prog 84 #[.pointer (some ⟨R, 0, none⟩)] w (RdOut FrP N R a0 len cap (k + 8) w) := by
  have hRl := h.lt
  have h0 := Lib.hid h; clear h
  have HM0 : Hid (Room (w.alloc (.cells #[.int .i64 0, .int .i64 0, .int .i64 0] 23)) w.heap.size 1) := by show Room _ _ _; exact Room.new' rfl rfl
  go_enter Tryd.func84, Tryd.ntmps84
  go_wp2_with fail
  refine (pick_any 40 (by omega) (by omega) (by omega) (h0.out.alloc _)).mono ?_
  rintro e w1 ⟨v, rfl, ⟨m, rfl, m0, m1⟩, hO, hR⟩
  have HM0 := Lib.hid (HM0.out.own hO (by simp) (by omega))
  have HO := Lib.hid (show Own R w w1 from Own.after ((Below.refl _ _).alloc (Nat.le_refl _) _) hO)
  have HR := Lib.hid hR
  have hz1 := hO.size
  (try simp at hz1)
  clear hO hR
  by_cases hm0 : m = 0
  · subst hm0
    obtain ⟨y0_0, e0_0⟩ := Option.isSome_iff_exists.1 (HM0.out 0 (by omega)).1
    have f0_0 := (HM0.out 0 (by omega)).2
    obtain ⟨y0_1, e0_1⟩ := Option.isSome_iff_exists.1 (HM0.out 1 (by omega)).1
    have f0_1 := (HM0.out 1 (by omega)).2
    obtain ⟨y0_2, e0_2⟩ := Option.isSome_iff_exists.1 (HM0.out 2 (by omega)).1
    have f0_2 := (HM0.out 2 (by omega)).2
    go_wp2
    have HR := Lib.hid (HR.out.mono (show _ ≤ k + 8 by omega))
    refine bodyPost_ret (v := .agg #[.int .i64 2, .int .i64 4, .int .i64 2]) (by simp [results, Tryd.results84, go_sem, *]) rfl ⟨_, rfl, ⟨⟨2, 4, 2⟩, rfl⟩, (by (repeat' first | (with_reducible exact HO.out) | (with_reducible refine Own.alloc ?_ _) | (with_reducible refine Own.setNew ?_ (by first | omega | (simp <;> omega)) _) | (with_reducible refine Own.drewN ?_ _) | (with_reducible refine Own.drew ?_))), (by (repeat' first | (with_reducible exact HR.out) | (with_reducible refine Rd.alloc ?_ _) | (with_reducible refine Rd.put ?_ (by first | omega | (simp <;> omega)) _) | (with_reducible refine Rd.drewN ?_ _) | (with_reducible refine Rd.drew ?_)))⟩
  by_cases hm1 : m = 1
  · subst hm1
    obtain ⟨y0_0, e0_0⟩ := Option.isSome_iff_exists.1 (HM0.out 0 (by omega)).1
    have f0_0 := (HM0.out 0 (by omega)).2
    obtain ⟨y0_1, e0_1⟩ := Option.isSome_iff_exists.1 (HM0.out 1 (by omega)).1
    have f0_1 := (HM0.out 1 (by omega)).2
    obtain ⟨y0_2, e0_2⟩ := Option.isSome_iff_exists.1 (HM0.out 2 (by omega)).1
    have f0_2 := (HM0.out 2 (by omega)).2
    go_wp2
    have HR := Lib.hid (HR.out.mono (show _ ≤ k + 8 by omega))
    refine bodyPost_ret (v := .agg #[.int .i64 1, .int .i64 0, .int .i64 0]) (by simp [results, Tryd.results84, go_sem, *]) rfl ⟨_, rfl, ⟨⟨1, 0, 0⟩, rfl⟩, (by (repeat' first | (with_reducible exact HO.out) | (with_reducible refine Own.alloc ?_ _) | (with_reducible refine Own.setNew ?_ (by first | omega | (simp <;> omega)) _) | (with_reducible refine Own.drewN ?_ _) | (with_reducible refine Own.drew ?_))), (by (repeat' first | (with_reducible exact HR.out) | (with_reducible refine Rd.alloc ?_ _) | (with_reducible refine Rd.put ?_ (by first | omega | (simp <;> omega)) _) | (with_reducible refine Rd.drewN ?_ _) | (with_reducible refine Rd.drew ?_)))⟩
  by_cases hm2 : m = 2
  · subst hm2
    obtain ⟨y0_0, e0_0⟩ := Option.isSome_iff_exists.1 (HM0.out 0 (by omega)).1
    have f0_0 := (HM0.out 0 (by omega)).2
    obtain ⟨y0_1, e0_1⟩ := Option.isSome_iff_exists.1 (HM0.out 1 (by omega)).1
    have f0_1 := (HM0.out 1 (by omega)).2
    obtain ⟨y0_2, e0_2⟩ := Option.isSome_iff_exists.1 (HM0.out 2 (by omega)).1
    have f0_2 := (HM0.out 2 (by omega)).2
    go_wp2
    have HR := Lib.hid (HR.out.mono (show _ ≤ k + 8 by omega))
    refine bodyPost_ret (v := .agg #[.int .i64 2000000000, .int .i64 1, .int .i64 7]) (by simp [results, Tryd.results84, go_sem, *]) rfl ⟨_, rfl, ⟨⟨2000000000, 1, 7⟩, rfl⟩, (by (repeat' first | (with_reducible exact HO.out) | (with_reducible refine Own.alloc ?_ _) | (with_reducible refine Own.setNew ?_ (by first | omega | (simp <;> omega)) _) | (with_reducible refine Own.drewN ?_ _) | (with_reducible refine Own.drew ?_))), (by (repeat' first | (with_reducible exact HR.out) | (with_reducible refine Rd.alloc ?_ _) | (with_reducible refine Rd.put ?_ (by first | omega | (simp <;> omega)) _) | (with_reducible refine Rd.drewN ?_ _) | (with_reducible refine Rd.drew ?_)))⟩
  by_cases hm3 : m = 3
  · subst hm3
    obtain ⟨y0_0, e0_0⟩ := Option.isSome_iff_exists.1 (HM0.out 0 (by omega)).1
    have f0_0 := (HM0.out 0 (by omega)).2
    obtain ⟨y0_1, e0_1⟩ := Option.isSome_iff_exists.1 (HM0.out 1 (by omega)).1
    have f0_1 := (HM0.out 1 (by omega)).2
    obtain ⟨y0_2, e0_2⟩ := Option.isSome_iff_exists.1 (HM0.out 2 (by omega)).1
    have f0_2 := (HM0.out 2 (by omega)).2
    go_wp2
    have HR := Lib.hid (HR.out.mono (show _ ≤ k + 8 by omega))
    refine bodyPost_ret (v := .agg #[.int .i64 0, .int .i64 0, .int .i64 1]) (by simp [results, Tryd.results84, go_sem, *]) rfl ⟨_, rfl, ⟨⟨0, 0, 1⟩, rfl⟩, (by (repeat' first | (with_reducible exact HO.out) | (with_reducible refine Own.alloc ?_ _) | (with_reducible refine Own.setNew ?_ (by first | omega | (simp <;> omega)) _) | (with_reducible refine Own.drewN ?_ _) | (with_reducible refine Own.drew ?_))), (by (repeat' first | (with_reducible exact HR.out) | (with_reducible refine Rd.alloc ?_ _) | (with_reducible refine Rd.put ?_ (by first | omega | (simp <;> omega)) _) | (with_reducible refine Rd.drewN ?_ _) | (with_reducible refine Rd.drew ?_)))⟩
  have q0 : (m == 0) = false := by simpa using hm0
  have q1 : (m == 1) = false := by simpa using hm1
  have q2 : (m == 2) = false := by simpa using hm2
  have q3 : (m == 3) = false := by simpa using hm3
  clear hm0 hm1 hm2 hm3
  go_wp2_with fail
  refine (pick_any 13 (by omega) (by omega) (by omega) HR.out).mono ?_
  rintro e w2 ⟨v, rfl, ⟨x, rfl, x0, x1⟩, hO, hR⟩
  have HM0 := Lib.hid (HM0.out.own hO (by omega) (by omega))
  have HO := Lib.hid (HO.out.trans hO)
  have HR := Lib.hid hR
  have hz2 := hO.size
  clear hO hR
  go_wp2_with fail
  refine (pick_any 9 (by omega) (by omega) (by omega) HR.out).mono ?_
  rintro e w3 ⟨v, rfl, ⟨y, rfl, y0, y1⟩, hO, hR⟩
  have HM0 := Lib.hid (HM0.out.own hO (by omega) (by omega))
  have HO := Lib.hid (HO.out.trans hO)
  have HR := Lib.hid hR
  have hz3 := hO.size
  clear hO hR
  go_wp2_with fail
  refine (pick_any 2 (by omega) (by omega) (by omega) HR.out).mono ?_
  rintro e w4 ⟨v, rfl, ⟨z, rfl, z0, z1⟩, hO, hR⟩
  have HM0 := Lib.hid (HM0.out.own hO (by omega) (by omega))
  have HO := Lib.hid (HO.out.trans hO)
  have HR := Lib.hid hR
  have hz4 := hO.size
  clear hO hR
  have hyz : -4 ≤ (y - 4) * z ∧ (y - 4) * z ≤ 4 := by
    have : z = 0 ∨ z = 1 := by omega
    rcases this with rfl | rfl <;> omega
  go_wp2_with fail
  refine (pick_any 5 (by omega) (by omega) (by omega) HR.out).mono ?_
  rintro e w5 ⟨v, rfl, ⟨u, rfl, u0, u1⟩, hO, hR⟩
  have HM0 := Lib.hid (HM0.out.own hO (by omega) (by omega))
  have HO := Lib.hid (HO.out.trans hO)
  have HR := Lib.hid hR
  have hz5 := hO.size
  clear hO hR
  go_wp2_with fail
  refine (l2Low_any (x - 6) ((y - 4) * z) (1 + u) (by omega) (by omega) (by omega) (by omega) (by omega) (by omega) _).mono ?_
  rintro e w6 ho
  obtain ⟨rfl, hb⟩ := ho.fn
  have HM0 := Lib.hid (HM0.out.below hb (by omega))
  have HO := Lib.hid (HO.out.below hb)
  have HR := Lib.hid (HR.out.next hb)
  have hz6 := hb.size
  clear ho hb
  obtain ⟨y0_0, e0_0⟩ := Option.isSome_iff_exists.1 (HM0.out 0 (by omega)).1
  have f0_0 := (HM0.out 0 (by omega)).2
  obtain ⟨y0_1, e0_1⟩ := Option.isSome_iff_exists.1 (HM0.out 1 (by omega)).1
  have f0_1 := (HM0.out 1 (by omega)).2
  obtain ⟨y0_2, e0_2⟩ := Option.isSome_iff_exists.1 (HM0.out 2 (by omega)).1
  have f0_2 := (HM0.out 2 (by omega)).2
  have hne : ¬ w.heap.size = w6.heap.size := by omega
  have hne2 : ¬ w6.heap.size = w.heap.size := by omega
  have hne3 : w.heap.size < w6.heap.size := by omega
  have hRw : R < w6.heap.size := HR.out.lt
  go_wp2
  have HR := Lib.hid (HR.out.mono (show _ ≤ k + 8 by omega))
  refine bodyPost_ret (v := .agg #[.int .i64 (low (x - 6) ((y - 4) * z) (1 + u)).1.re, .int .i64 (low (x - 6) ((y - 4) * z) (1 + u)).1.im, .int .i64 (low (x - 6) ((y - 4) * z) (1 + u)).1.den]) (by simp [results, Tryd.results84, go_sem, *]) rfl ⟨_, rfl, ⟨⟨(low (x - 6) ((y - 4) * z) (1 + u)).1.re, (low (x - 6) ((y - 4) * z) (1 + u)).1.im, (low (x - 6) ((y - 4) * z) (1 + u)).1.den⟩, rfl⟩, (by (repeat' first | (with_reducible exact HO.out) | (with_reducible refine Own.alloc ?_ _) | (with_reducible refine Own.setNew ?_ (by first | omega | (simp <;> omega)) _) | (with_reducible refine Own.drewN ?_ _) | (with_reducible refine Own.drew ?_))), (by (repeat' first | (with_reducible exact HR.out) | (with_reducible refine Rd.alloc ?_ _) | (with_reducible refine Rd.put ?_ (by first | omega | (simp <;> omega)) _) | (with_reducible refine Rd.drewN ?_ _) | (with_reducible refine Rd.drew ?_)))⟩
end Go.Proofs.YtmcokdiopcpifaaDoor
namespace Pol
def m4z : M4 := ⟨fz, fz, fz, fz⟩
def j2z : J2 := ⟨fz, fz⟩
def gAdj (m : M4) : M4 × Bool := if all4 vld m = true then (⟨(fMirror m.a).1, (fMirror m.c).1, (fMirror m.b).1, (fMirror m.d).1⟩, true) else (m4z, false)
theorem low_im0 (re den : Int) : (low re 0 den).1.im = 0 := by
  unfold low; split
  · unfold cut; simp
  · rfl
theorem low_bd (re im den : Int) : -2000000000 ≤ (low re im den).1.re ∧ (low re im den).1.re ≤ 2000000000 := by
  unfold low; split
  · next h =>
    unfold lowB inP at h
    simp only [Bool.and_eq_true, decide_eq_true_eq] at h
    exact h.1.1
  · unfold fz; simp
end Pol
namespace Pol
/-- A value, or its zero where something on the way is none. -/
def gt {α : Type} (z : α) (e : Bool) (x : α) : α × Bool := if e = true then (z, false) else (x, true)
theorem gt_no {α : Type} {z : α} {e : Bool} {x : α} (h : (gt z e x).2 = false) : gt z e x = (z, false) := by unfold gt at h ⊢; cases e <;> simp_all
theorem gt_end {α : Type} (z : α) (e : Bool) (x : α) : e = !(gt z e x).2 ∧ ((gt z e x).2 = true → x = (gt z e x).1) := by unfold gt; cases e <;> simp
theorem pair_t {α : Type} {g : α × Bool} (h : g.2 = true) : g = (g.1, true) := by cases g; simp_all
def jv (a : J2) : Bool := vld a.x && vld a.y
theorem jv_iff {a : J2} : jv a = true ↔ vld a.x = true ∧ vld a.y = true := by unfold jv; simp
def fIn (a b c d : Fr) : Fr × Bool := if ((fTimes a b).2 && (fTimes c d).2) = true then fAdd (fTimes a b).1 (fTimes c d).1 else (fz, false)
def eIn (e : Bool) (a b c d : Fr) : Bool := ((e || !(fTimes a b).2) || !(fTimes c d).2) || !(fAdd (fTimes a b).1 (fTimes c d).1).2
theorem eIn_eq (e : Bool) (a b c d : Fr) : eIn e a b c d = (e || !(fIn a b c d).2) := by
  unfold eIn fIn
  cases h1 : (fTimes a b).2
  · simp
  cases h2 : (fTimes c d).2
  · simp
  simp
theorem fIn_val {a b c d : Fr} (h : (fIn a b c d).2 = true) : (fAdd (fTimes a b).1 (fTimes c d).1).1 = (fIn a b c d).1 := by
  unfold fIn at h ⊢
  split
  · rfl
  · next hh => rw [if_neg hh] at h; cases h
end Pol
namespace Pol
def f2 : Fr := ⟨2, 0, 1⟩
end Pol
namespace Go.Proofs.YtmcokdiopcpifaaDoor
open Go.RowKit Pol
/-- The first k pass; nothing that was there has turned. -/
def VRel (p : Fr → Bool) (g : Nat → Fr) (n : Nat) (W : World) (i : Value) (wr : World) : Prop := ∃ k : Nat, k ≤ n ∧ i = .int .i64 k ∧ Hid (apre p g k = true) ∧ Below W.heap.size W wr
theorem VRel.mk {p : Fr → Bool} {g : Nat → Fr} {n : Nat} {W wr : World} {i : Value} (k : Nat) (h : k ≤ n) (hi : i = .int .i64 k) (hp : apre p g k = true) (hb : Below W.heap.size W wr) : VRel p g n W i wr := ⟨k, h, hi, hp, hb⟩
theorem idx4_0 (m : M4) (w : World) : (Instr.index 39 (.agg #[.int .i64 m.a.re, .int .i64 m.a.im, .int .i64 m.a.den, .int .i64 m.b.re, .int .i64 m.b.im, .int .i64 m.b.den, .int .i64 m.c.re, .int .i64 m.c.im, .int .i64 m.c.den, .int .i64 m.d.re, .int .i64 m.d.im, .int .i64 m.d.den]) (.int .i64 0)).run Tryd.prog w = .ok (.agg #[.int .i64 m.a.re, .int .i64 m.a.im, .int .i64 m.a.den]) w := by kernel_rfl
theorem idx4_1 (m : M4) (w : World) : (Instr.index 39 (.agg #[.int .i64 m.a.re, .int .i64 m.a.im, .int .i64 m.a.den, .int .i64 m.b.re, .int .i64 m.b.im, .int .i64 m.b.den, .int .i64 m.c.re, .int .i64 m.c.im, .int .i64 m.c.den, .int .i64 m.d.re, .int .i64 m.d.im, .int .i64 m.d.den]) (.int .i64 1)).run Tryd.prog w = .ok (.agg #[.int .i64 m.b.re, .int .i64 m.b.im, .int .i64 m.b.den]) w := by kernel_rfl
theorem idx4_2 (m : M4) (w : World) : (Instr.index 39 (.agg #[.int .i64 m.a.re, .int .i64 m.a.im, .int .i64 m.a.den, .int .i64 m.b.re, .int .i64 m.b.im, .int .i64 m.b.den, .int .i64 m.c.re, .int .i64 m.c.im, .int .i64 m.c.den, .int .i64 m.d.re, .int .i64 m.d.im, .int .i64 m.d.den]) (.int .i64 2)).run Tryd.prog w = .ok (.agg #[.int .i64 m.c.re, .int .i64 m.c.im, .int .i64 m.c.den]) w := by kernel_rfl
theorem idx4_3 (m : M4) (w : World) : (Instr.index 39 (.agg #[.int .i64 m.a.re, .int .i64 m.a.im, .int .i64 m.a.den, .int .i64 m.b.re, .int .i64 m.b.im, .int .i64 m.b.den, .int .i64 m.c.re, .int .i64 m.c.im, .int .i64 m.c.den, .int .i64 m.d.re, .int .i64 m.d.im, .int .i64 m.d.den]) (.int .i64 3)).run Tryd.prog w = .ok (.agg #[.int .i64 m.d.re, .int .i64 m.d.im, .int .i64 m.d.den]) w := by kernel_rfl
set_option maxHeartbeats 4000000 in
theorem imatvalid_any (m : M4) (w : World) :
    Calls Tryd.prog 73 #[.agg #[.int .i64 m.a.re, .int .i64 m.a.im, .int .i64 m.a.den, .int .i64 m.b.re, .int .i64 m.b.im, .int .i64 m.b.den, .int .i64 m.c.re, .int .i64 m.c.im, .int .i64 m.c.den, .int .i64 m.d.re, .int .i64 m.d.im, .int .i64 m.d.den]] w fun e w' => e = .returned (.bool (all4 vld m)) ∧ Below w.heap.size w w' := by
  have i0 := idx4_0 m
  have i1 := idx4_1 m
  have i2 := idx4_2 m
  have i3 := idx4_3 m
  go_enter Tryd.func73, Tryd.ntmps73
  go_wp2
  go_loopw [7] (fun i wr => VRel vld m.get 4 w i wr) (fun i _ => (4 - intOf i).toNat)
  case atStart => exact VRel.mk 0 (by omega) rfl rfl (by (repeat' first | exact Below.refl _ _ | apply bl_alloc | apply bl_drewN | apply bl_drew | refine bl_trans ?_ (by assumption) | refine bl_set ?_ (by first | omega | (simp <;> omega)) _))
  case round =>
    obtain ⟨k, hk, rfl, HP, hb⟩ := hrel
    have h5 : k = 0 ∨ k = 1 ∨ k = 2 ∨ k = 3 ∨ k = 4 := by omega
    rcases h5 with rfl | rfl | rfl | rfl | rfl
    · cases h : vld m.a
      · go_wp2_with (go_at_call 86; (with_reducible refine (valid_fb h _).mono ?_); rintro e w1 ⟨rfl, hb1⟩)
        go_ret
        exact ⟨ret_bool (apre_no (k := 0) h 4 (by omega)).symm, by (repeat' first | exact Below.refl _ _ | apply bl_alloc | apply bl_drewN | apply bl_drew | refine bl_trans ?_ (by assumption) | refine bl_set ?_ (by first | omega | (simp <;> omega)) _)⟩
      · go_wp2_with (go_at_call 86; (with_reducible refine (valid_fb h _).mono ?_); rintro e w1 ⟨rfl, hb1⟩)
        go_roundw
        case rel => exact VRel.mk 1 (by omega) (by go_num) (apre_s HP.out h) (by (repeat' first | exact Below.refl _ _ | apply bl_alloc | apply bl_drewN | apply bl_drew | refine bl_trans ?_ (by assumption) | refine bl_set ?_ (by first | omega | (simp <;> omega)) _))
        case measure => simp [intOf]
    · cases h : vld m.b
      · go_wp2_with (go_at_call 86; (with_reducible refine (valid_fb h _).mono ?_); rintro e w1 ⟨rfl, hb1⟩)
        go_ret
        exact ⟨ret_bool (apre_no (k := 1) h 4 (by omega)).symm, by (repeat' first | exact Below.refl _ _ | apply bl_alloc | apply bl_drewN | apply bl_drew | refine bl_trans ?_ (by assumption) | refine bl_set ?_ (by first | omega | (simp <;> omega)) _)⟩
      · go_wp2_with (go_at_call 86; (with_reducible refine (valid_fb h _).mono ?_); rintro e w1 ⟨rfl, hb1⟩)
        go_roundw
        case rel => exact VRel.mk 2 (by omega) (by go_num) (apre_s HP.out h) (by (repeat' first | exact Below.refl _ _ | apply bl_alloc | apply bl_drewN | apply bl_drew | refine bl_trans ?_ (by assumption) | refine bl_set ?_ (by first | omega | (simp <;> omega)) _))
        case measure => simp [intOf]
    · cases h : vld m.c
      · go_wp2_with (go_at_call 86; (with_reducible refine (valid_fb h _).mono ?_); rintro e w1 ⟨rfl, hb1⟩)
        go_ret
        exact ⟨ret_bool (apre_no (k := 2) h 4 (by omega)).symm, by (repeat' first | exact Below.refl _ _ | apply bl_alloc | apply bl_drewN | apply bl_drew | refine bl_trans ?_ (by assumption) | refine bl_set ?_ (by first | omega | (simp <;> omega)) _)⟩
      · go_wp2_with (go_at_call 86; (with_reducible refine (valid_fb h _).mono ?_); rintro e w1 ⟨rfl, hb1⟩)
        go_roundw
        case rel => exact VRel.mk 3 (by omega) (by go_num) (apre_s HP.out h) (by (repeat' first | exact Below.refl _ _ | apply bl_alloc | apply bl_drewN | apply bl_drew | refine bl_trans ?_ (by assumption) | refine bl_set ?_ (by first | omega | (simp <;> omega)) _))
        case measure => simp [intOf]
    · cases h : vld m.d
      · go_wp2_with (go_at_call 86; (with_reducible refine (valid_fb h _).mono ?_); rintro e w1 ⟨rfl, hb1⟩)
        go_ret
        exact ⟨ret_bool (apre_no (k := 3) h 4 (by omega)).symm, by (repeat' first | exact Below.refl _ _ | apply bl_alloc | apply bl_drewN | apply bl_drew | refine bl_trans ?_ (by assumption) | refine bl_set ?_ (by first | omega | (simp <;> omega)) _)⟩
      · go_wp2_with (go_at_call 86; (with_reducible refine (valid_fb h _).mono ?_); rintro e w1 ⟨rfl, hb1⟩)
        go_roundw
        case rel => exact VRel.mk 4 (by omega) (by go_num) (apre_s HP.out h) (by (repeat' first | exact Below.refl _ _ | apply bl_alloc | apply bl_drewN | apply bl_drew | refine bl_trans ?_ (by assumption) | refine bl_set ?_ (by first | omega | (simp <;> omega)) _))
        case measure => simp [intOf]
    · go_wp2
      go_ret
      exact ⟨ret_bool HP.out.symm, by (repeat' first | exact Below.refl _ _ | apply bl_alloc | apply bl_drewN | apply bl_drew | refine bl_trans ?_ (by assumption) | refine bl_set ?_ (by first | omega | (simp <;> omega)) _)⟩
end Go.Proofs.YtmcokdiopcpifaaDoor
namespace Go.Proofs.YtmcokdiopcpifaaDoor
open Go.RowKit Pol
/-- What a call hands back that makes four fractions. -/
def M4Out (g : M4 × Bool) (w : World) (e : Ending) (w' : World) : Prop :=
  e = .returned (.tuple #[.agg #[.int .i64 g.1.a.re, .int .i64 g.1.a.im, .int .i64 g.1.a.den, .int .i64 g.1.b.re, .int .i64 g.1.b.im, .int .i64 g.1.b.den, .int .i64 g.1.c.re, .int .i64 g.1.c.im, .int .i64 g.1.c.den, .int .i64 g.1.d.re, .int .i64 g.1.d.im, .int .i64 g.1.d.den], .bool g.2]) ∧ Below w.heap.size w w'
theorem M4Out.yes {g : M4 × Bool} {f : M4} {w w' : World} (h2 : g.2 = true) (h1 : f = g.1) (hb : Below w.heap.size w w') : M4Out g w (.returned (.tuple #[.agg #[.int .i64 f.a.re, .int .i64 f.a.im, .int .i64 f.a.den, .int .i64 f.b.re, .int .i64 f.b.im, .int .i64 f.b.den, .int .i64 f.c.re, .int .i64 f.c.im, .int .i64 f.c.den, .int .i64 f.d.re, .int .i64 f.d.im, .int .i64 f.d.den], .bool true])) w' :=
  ⟨by rw [h1, h2], hb⟩
theorem M4Out.no {g : M4 × Bool} {w w' : World} (h2 : g = (m4z, false)) (hb : Below w.heap.size w w') : M4Out g w (.returned (.tuple #[.agg #[.int .i64 0, .int .i64 0, .int .i64 0, .int .i64 0, .int .i64 0, .int .i64 0, .int .i64 0, .int .i64 0, .int .i64 0, .int .i64 0, .int .i64 0, .int .i64 0], .bool false])) w' :=
  ⟨by rw [h2]; rfl, hb⟩
theorem Room.sm {b : Nat} {v : Bool} {W w1 : World} {N n : Nat} (h : Room W N n) (hs : Sm b v W w1) (hN : N < W.heap.size) (hne : N ≠ b) : Room w1 N n := fun j hj =>
  ⟨by rw [hs.atc N hN hne]; exact (h j hj).1, by rw [hs.atf N hN hne]; exact (h j hj).2⟩
theorem results_cell_mid2 {P : Program} {fn : Func} {p u : Tmp} {ty : TypeId} (h : fn.results = #[.cell p ty, .tmp u]) (tmps : Array Value) (w : World) (g : Nat) (cs : List Value) (d : TypeDesc)
    (hp : tmps.getD p undef = .pointer (some ⟨g, 0, none⟩)) (hc : w.rangeAt g 0 cs) (hu : P.underlying ty = some d) (hd : d.isRow = true) (hi : (P.info? ty).map (·.size) = some cs.length) :
    (results fn tmps).run P w = .ok (.tuple #[.agg cs.toArray, tmps.getD u undef]) w := by
  have hp' : tmps[p]?.getD undef = .pointer (some ⟨g, 0, none⟩) := by simpa using hp
  simp [results, h, hp', asAddr, run_loadVar_mid w g 0 ty cs d hc hu hd hi]
end Go.Proofs.YtmcokdiopcpifaaDoor
