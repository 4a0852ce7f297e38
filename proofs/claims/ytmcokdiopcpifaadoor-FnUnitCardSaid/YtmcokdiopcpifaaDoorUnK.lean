/- Contracts: loops over four numbers with a reckoning (the program), and step by step (the reference). -/
import Derived.Test.YtmcokdiopcpifaaDoorUnG5
import Derived.Test.YtmcokdiopcpifaaDoorUnF
set_option maxRecDepth 100000
namespace Go.Proofs.YtmcokdiopcpifaaDoor
open Go.RowKit Pol
theorem BoxAt.sm {b : Nat} {v : Bool} {W w1 : World} {N n : Nat} {g : Nat → Fr} (h : BoxAt W N g n) (hs : Sm b v W w1) (hN : N < W.heap.size) (hne : N ≠ b) : BoxAt w1 N g n := fun k hk => by
  obtain ⟨h0, h1, h2⟩ := h k hk
  exact ⟨(hs.atc N hN hne _).trans h0, (hs.atc N hN hne _).trans h1, (hs.atc N hN hne _).trans h2⟩
theorem far3 {w : World} {O i j k : Nat} {u v x : Value} {B o : Nat} (h : O ≠ B) : (((w.setCell ⟨O, i, none⟩ u).setCell ⟨O, j, none⟩ v).setCell ⟨O, k, none⟩ x).cell? ⟨B, o, none⟩ = w.cell? ⟨B, o, none⟩ := by
  rw [World.cell?_setCell_far _ _ _ _ h, World.cell?_setCell_far _ _ _ _ h, World.cell?_setCell_far _ _ _ _ h]
/-- Where the loop stands: k places are done. -/
structure LRel (W : World) (A B R P O : Nat) (ga gb : Nat → Fr) (nb : Nat) (e : Bool) (f : Nat → Fr × Bool) (k : Nat) (wr : World) : Prop where
  le : k ≤ 4
  below : Below W.heap.size W wr
  size : O + 1 ≤ wr.heap.size
  one : BoxAt wr A ga 4
  two : BoxAt wr B gb nb
  res : Room wr R 4
  room : Room wr O 4
  out : BoxAt wr O (fun i => (f i).1) k
  cell : wr.cell? ⟨P, 0, none⟩ = some (.bool (fl e f k))
  free : wr.frozen? ⟨P, 0, none⟩ = false
def LR (W : World) (A B R P O : Nat) (ga gb : Nat → Fr) (nb : Nat) (e : Bool) (f : Nat → Fr × Bool) (i : Value) (wr : World) : Prop := ∃ k : Nat, i = .int .i64 k ∧ LRel W A B R P O ga gb nb e f k wr
/-- The order of the boxes. -/
structure Ord (W : World) (A B R P O : Nat) : Prop where
  hA : A < P
  hB : B < P
  hR : R < P
  hP : P < O
  wP : W.heap.size ≤ P
  wO : W.heap.size ≤ O
  nA : A ≠ O
  nB : B ≠ O
  nR : R ≠ O
theorem LRel.step {W wr w1 : World} {A B R P O : Nat} {ga gb : Nat → Fr} {nb : Nat} {e : Bool} {f : Nat → Fr × Bool} {k : Nat} (h : LRel W A B R P O ga gb nb e f k wr) (o : Ord W A B R P O) (hk : k < 4) (hs : Sm P (fl e f (k + 1)) wr w1) : LRel W A B R P O ga gb nb e f (k + 1) (putF w1 O k (f k).1) := by
  have hz := h.size
  obtain ⟨a1, a2, a3, a4, a5, a6, a7, a8, a9⟩ := o
  refine ⟨hk, ?_, ?_, ?_, ?_, ?_, ?_, ?_, ?_, ?_⟩
  · have := hs.own h.below a5
    exact ((this.setCell a6 _).setCell a6 _).setCell a6 _
  · rw [putF_size]; exact Nat.le_trans hz hs.size
  · exact (h.one.sm hs (by omega) (by omega)).put_other (by omega) k _
  · exact (h.two.sm hs (by omega) (by omega)).put_other (by omega) k _
  · exact (h.res.sm hs (by omega) (by omega)).put _ _ _
  · exact (h.room.sm hs (by omega) (by omega)).put _ _ _
  · exact (h.out.sm hs (by omega) (by omega)).put (h.room.sm hs (by omega) (by omega)) hk
  · have : ∀ (a : World) (j : Nat) (v : Value), (a.setCell ⟨O, j, none⟩ v).cell? ⟨P, 0, none⟩ = a.cell? ⟨P, 0, none⟩ := fun a j v => World.cell?_setCell_far _ _ _ _ (by show O ≠ P; omega)
    show (putF w1 O k (f k).1).cell? _ = _
    unfold putF; rw [this, this, this]; exact hs.cell
  · show (putF w1 O k (f k).1).frozen? _ = _
    unfold putF; rw [World.frozen?_setCell, World.frozen?_setCell, World.frozen?_setCell]; exact hs.free
theorem LRel.drew {W wr : World} {A B R P O : Nat} {ga gb : Nat → Fr} {nb : Nat} {e : Bool} {f : Nat → Fr × Bool} {k : Nat} (h : LRel W A B R P O ga gb nb e f k wr) : LRel W A B R P O ga gb nb e f k wr.drew := ⟨h.le, h.below.drew, h.size, h.one, h.two, h.res, h.room, h.out, h.cell, h.free⟩
theorem gotStokes_cl_yes (b : Nat) (x : M4) (w : World) (hb0 : b < w.heap.size) (hc0 : w.cell? ⟨b, 0, none⟩ = some (.bool false)) :
    Calls Tryd.prog 95 #[.pointer (some ⟨b, 0, none⟩), .agg (cl x.get 4).toArray] w fun e w' => e = .returned (.tuple #[.agg (cl x.get 4).toArray, .bool true]) ∧ Below w.heap.size w w' := by
  rw [cl4 x]; exact gotStokes_yes b x w hb0 hc0
theorem gotStokes_cl_no (b : Nat) (x : M4) (w : World) (hb0 : b < w.heap.size) (hc0 : w.cell? ⟨b, 0, none⟩ = some (.bool true)) :
    Calls Tryd.prog 95 #[.pointer (some ⟨b, 0, none⟩), .agg (cl x.get 4).toArray] w fun e w' => e = .returned (.tuple #[.agg (cl m4z.get 4).toArray, .bool false]) ∧ Below w.heap.size w w' := by
  rw [cl4 x, cl4 m4z]; exact gotStokes_no b x w hb0 hc0
theorem src4 (m : M4) (k : Nat) (hk : k < 4) : (#[.int .i64 m.a.re, .int .i64 m.a.im, .int .i64 m.a.den, .int .i64 m.b.re, .int .i64 m.b.im, .int .i64 m.b.den, .int .i64 m.c.re, .int .i64 m.c.im, .int .i64 m.c.den, .int .i64 m.d.re, .int .i64 m.d.im, .int .i64 m.d.den] : Array Value)[k * 3]? = some (.int .i64 (m.get k).re) ∧ (#[.int .i64 m.a.re, .int .i64 m.a.im, .int .i64 m.a.den, .int .i64 m.b.re, .int .i64 m.b.im, .int .i64 m.b.den, .int .i64 m.c.re, .int .i64 m.c.im, .int .i64 m.c.den, .int .i64 m.d.re, .int .i64 m.d.im, .int .i64 m.d.den] : Array Value)[k * 3 + 1]? = some (.int .i64 (m.get k).im) ∧ (#[.int .i64 m.a.re, .int .i64 m.a.im, .int .i64 m.a.den, .int .i64 m.b.re, .int .i64 m.b.im, .int .i64 m.b.den, .int .i64 m.c.re, .int .i64 m.c.im, .int .i64 m.c.den, .int .i64 m.d.re, .int .i64 m.d.im, .int .i64 m.d.den] : Array Value)[k * 3 + 2]? = some (.int .i64 (m.get k).den) := by
  have : k = 0 ∨ k = 1 ∨ k = 2 ∨ k = 3 := by omega
  rcases this with rfl | rfl | rfl | rfl <;> exact ⟨rfl, rfl, rfl⟩
theorem src1 (f : Fr) (k : Nat) (hk : k < 1) : (#[.int .i64 f.re, .int .i64 f.im, .int .i64 f.den] : Array Value)[k * 3]? = some (.int .i64 f.re) ∧ (#[.int .i64 f.re, .int .i64 f.im, .int .i64 f.den] : Array Value)[k * 3 + 1]? = some (.int .i64 f.im) ∧ (#[.int .i64 f.re, .int .i64 f.im, .int .i64 f.den] : Array Value)[k * 3 + 2]? = some (.int .i64 f.den) := by
  obtain rfl : k = 0 := by omega
  exact ⟨rfl, rfl, rfl⟩
set_option maxRecDepth 100000 in
set_option maxHeartbeats 40000000 in
theorem itim4_any (a : M4) (c : Fr) (w : World) :
    Calls Tryd.prog 47 #[.agg #[.int .i64 a.a.re, .int .i64 a.a.im, .int .i64 a.a.den, .int .i64 a.b.re, .int .i64 a.b.im, .int .i64 a.b.den, .int .i64 a.c.re, .int .i64 a.c.im, .int .i64 a.c.den, .int .i64 a.d.re, .int .i64 a.d.im, .int .i64 a.d.den], .agg #[.int .i64 c.re, .int .i64 c.im, .int .i64 c.den]] w (M4Out (sTim a c) w) := by
  have HB : Hid (Below w.heap.size w ((((w.alloc (.cells #[.int .i64 a.a.re, .int .i64 a.a.im, .int .i64 a.a.den, .int .i64 a.b.re, .int .i64 a.b.im, .int .i64 a.b.den, .int .i64 a.c.re, .int .i64 a.c.im, .int .i64 a.c.den, .int .i64 a.d.re, .int .i64 a.d.im, .int .i64 a.d.den] 51)).alloc (.cells #[.int .i64 c.re, .int .i64 c.im, .int .i64 c.den] 23)).alloc (.cells #[.int .i64 0, .int .i64 0, .int .i64 0, .int .i64 0, .int .i64 0, .int .i64 0, .int .i64 0, .int .i64 0, .int .i64 0, .int .i64 0, .int .i64 0, .int .i64 0] 51)).alloc (.cells #[.bool false] 102))) := by
    show Below _ _ _
    (repeat' first | exact Below.refl _ _ | apply bl_alloc | apply bl_drewN | apply bl_drew | refine bl_trans ?_ (by assumption) | refine bl_set ?_ (by first | omega | (simp <;> omega)) _)
  have HR : Hid (Room ((((w.alloc (.cells #[.int .i64 a.a.re, .int .i64 a.a.im, .int .i64 a.a.den, .int .i64 a.b.re, .int .i64 a.b.im, .int .i64 a.b.den, .int .i64 a.c.re, .int .i64 a.c.im, .int .i64 a.c.den, .int .i64 a.d.re, .int .i64 a.d.im, .int .i64 a.d.den] 51)).alloc (.cells #[.int .i64 c.re, .int .i64 c.im, .int .i64 c.den] 23)).alloc (.cells #[.int .i64 0, .int .i64 0, .int .i64 0, .int .i64 0, .int .i64 0, .int .i64 0, .int .i64 0, .int .i64 0, .int .i64 0, .int .i64 0, .int .i64 0, .int .i64 0] 51)).alloc (.cells #[.bool false] 102)) (w.heap.size + 1 + 1) 4) := by
    show Room _ _ _
    exact (Room.new' (by simp) rfl).alloc (by simp) _
  have HX : Hid (BoxAt ((((w.alloc (.cells #[.int .i64 a.a.re, .int .i64 a.a.im, .int .i64 a.a.den, .int .i64 a.b.re, .int .i64 a.b.im, .int .i64 a.b.den, .int .i64 a.c.re, .int .i64 a.c.im, .int .i64 a.c.den, .int .i64 a.d.re, .int .i64 a.d.im, .int .i64 a.d.den] 51)).alloc (.cells #[.int .i64 c.re, .int .i64 c.im, .int .i64 c.den] 23)).alloc (.cells #[.int .i64 0, .int .i64 0, .int .i64 0, .int .i64 0, .int .i64 0, .int .i64 0, .int .i64 0, .int .i64 0, .int .i64 0, .int .i64 0, .int .i64 0, .int .i64 0] 51)).alloc (.cells #[.bool false] 102)) (w.heap.size) a.get 4) := by
    show BoxAt _ _ _ _
    exact (((BoxAt.new _ _ _ _ _ (src4 a)).alloc (by simp) _).alloc (by simp) _).alloc (by simp) _
  have HY : Hid (BoxAt ((((w.alloc (.cells #[.int .i64 a.a.re, .int .i64 a.a.im, .int .i64 a.a.den, .int .i64 a.b.re, .int .i64 a.b.im, .int .i64 a.b.den, .int .i64 a.c.re, .int .i64 a.c.im, .int .i64 a.c.den, .int .i64 a.d.re, .int .i64 a.d.im, .int .i64 a.d.den] 51)).alloc (.cells #[.int .i64 c.re, .int .i64 c.im, .int .i64 c.den] 23)).alloc (.cells #[.int .i64 0, .int .i64 0, .int .i64 0, .int .i64 0, .int .i64 0, .int .i64 0, .int .i64 0, .int .i64 0, .int .i64 0, .int .i64 0, .int .i64 0, .int .i64 0] 51)).alloc (.cells #[.bool false] 102)) (w.heap.size + 1) (fun _ => c) 1) := by
    show BoxAt _ _ _ _
    exact ((BoxAt.new' (by simp) (src1 c)).alloc (by simp) _).alloc (by simp) _
  have hsc : ((((w.alloc (.cells #[.int .i64 a.a.re, .int .i64 a.a.im, .int .i64 a.a.den, .int .i64 a.b.re, .int .i64 a.b.im, .int .i64 a.b.den, .int .i64 a.c.re, .int .i64 a.c.im, .int .i64 a.c.den, .int .i64 a.d.re, .int .i64 a.d.im, .int .i64 a.d.den] 51)).alloc (.cells #[.int .i64 c.re, .int .i64 c.im, .int .i64 c.den] 23)).alloc (.cells #[.int .i64 0, .int .i64 0, .int .i64 0, .int .i64 0, .int .i64 0, .int .i64 0, .int .i64 0, .int .i64 0, .int .i64 0, .int .i64 0, .int .i64 0, .int .i64 0] 51)).alloc (.cells #[.bool false] 102)).cell? ⟨w.heap.size + 1 + 1 + 1, 0, none⟩ = some (.bool false) := by simp [go_sem]
  have hsf : ((((w.alloc (.cells #[.int .i64 a.a.re, .int .i64 a.a.im, .int .i64 a.a.den, .int .i64 a.b.re, .int .i64 a.b.im, .int .i64 a.b.den, .int .i64 a.c.re, .int .i64 a.c.im, .int .i64 a.c.den, .int .i64 a.d.re, .int .i64 a.d.im, .int .i64 a.d.den] 51)).alloc (.cells #[.int .i64 c.re, .int .i64 c.im, .int .i64 c.den] 23)).alloc (.cells #[.int .i64 0, .int .i64 0, .int .i64 0, .int .i64 0, .int .i64 0, .int .i64 0, .int .i64 0, .int .i64 0, .int .i64 0, .int .i64 0, .int .i64 0, .int .i64 0] 51)).alloc (.cells #[.bool false] 102)).frozen? ⟨w.heap.size + 1 + 1 + 1, 0, none⟩ = false := by simp [go_sem]
  cases h1 : all4 realB a
  · have HEQ : Hid (sTim a c = m4l (false || !false) (sTimF a c)) := by show _ = _; unfold sTim; rw [h1]; rfl
    go_enter Tryd.func47, Tryd.ntmps47
    go_wp2_with fail
    refine (istokesvalid_any a _).mono ?_
    rintro e w1 ⟨rfl, hb⟩
    have HR := Lib.hid (HR.out.below hb (by first | omega | (simp <;> omega)))
    have HX := Lib.hid (HX.out.below hb (by first | omega | (simp <;> omega)))
    have HY := Lib.hid (HY.out.below hb (by first | omega | (simp <;> omega)))
    have HB := Lib.hid (show Below w.heap.size w w1 from HB.out.trans (hb.mono HB.out.size))
    have hsc := (hb.cell (p := ⟨w.heap.size + 1 + 1 + 1, 0, none⟩) (by first | (show _ < _; omega) | (simp <;> omega))).trans hsc
    have hsf := (hb.frozen (p := ⟨w.heap.size + 1 + 1 + 1, 0, none⟩) (by first | (show _ < _; omega) | (simp <;> omega))).trans hsf
    obtain ⟨hc, hf, hz⟩ := bcellk (B := w.heap.size + 1 + 1 + 1 + 1) hb (by first | omega | (simp <;> omega))
    clear hb
    go_wp2_with fail
    refine (need_any (w.heap.size + 1 + 1 + 1) false (false) w1 (by omega) hsc hsf).mono ?_
    rintro e w2 ho
    obtain ⟨rfl, hs⟩ := ho.fn
    have HR := Lib.hid (HR.out.sm hs (by first | omega | (simp <;> omega)) (by omega))
    have HX := Lib.hid (HX.out.sm hs (by first | omega | (simp <;> omega)) (by omega))
    have HY := Lib.hid (HY.out.sm hs (by first | omega | (simp <;> omega)) (by omega))
    have HB := Lib.hid (show Below w.heap.size w w2 from hs.own HB.out (by omega))
    have hsc := hs.cell
    have hsf := hs.free
    have hz : w.heap.size + 1 + 1 + 1 + 1 ≤ w2.heap.size := Nat.le_trans (by first | omega | (simp <;> omega)) hs.size
    clear ho hs
    have o : Ord w (w.heap.size) (w.heap.size + 1) (w.heap.size + 1 + 1) (w.heap.size + 1 + 1 + 1) w2.heap.size := ⟨by omega, by omega, by omega, by omega, by omega, by omega, by omega, by omega, by omega⟩
    go_wp2
    go_loopw [19] (fun i wr => LR w (w.heap.size) (w.heap.size + 1) (w.heap.size + 1 + 1) (w.heap.size + 1 + 1 + 1) w2.heap.size a.get (fun _ => c) 1 (false || !false) (sTimF a c) i wr) (fun i _ => (4 - intOf i).toNat)
    case atStart =>
      exact ⟨0, rfl, by omega, (HB.out.alloc (by omega) _), by simp, HX.out.alloc (by omega) _, HY.out.alloc (by omega) _, HR.out.alloc (by omega) _, Room.new' rfl rfl, fun k hk => absurd hk (by omega), (World.cell?_alloc_old _ _ _ (by show w.heap.size + 1 + 1 + 1 ≠ w2.heap.size; omega)).trans hsc, by first | exact (World.frozen?_alloc_old _ _ _ (by show w.heap.size + 1 + 1 + 1 ≠ w2.heap.size; omega)).trans hsf⟩
    case round =>
      clear hsc hsf hz
      obtain ⟨k, rfl, hT⟩ := hrel
      by_cases h4 : k < 4
      · obtain ⟨c0, c1, c2⟩ := hT.one k h4
        obtain ⟨d0, d1, d2⟩ := hT.two 0 (by omega)
        have hz := hT.size
        have HT := Lib.hid hT.drew
        have hsc : wr.drew.cell? ⟨w.heap.size + 1 + 1 + 1, 0, none⟩ = _ := hT.cell
        have hsf : wr.drew.frozen? ⟨w.heap.size + 1 + 1 + 1, 0, none⟩ = false := hT.free
        obtain ⟨a1, a2, a3, a4, a5, a6, a7, a8, a9⟩ := o
        have nA : w2.heap.size ≠ w.heap.size := by omega
        have nB : w2.heap.size ≠ w.heap.size + 1 := by omega
        have i0 : (0 : Int) ≤ (k : Int) := by omega
        have i1 : (k : Int) < 4 := by omega
        go_wp2
        go_region_held3 (fun w' => w'.cell? ⟨w.heap.size, k * 3, none⟩ = some (.int .i64 (a.get k).re) ∧ w'.cell? ⟨w.heap.size, k * 3 + 1, none⟩ = some (.int .i64 (a.get k).im) ∧ w'.cell? ⟨w.heap.size, k * 3 + 2, none⟩ = some (.int .i64 (a.get k).den) ∧ w'.cell? ⟨w.heap.size + 1, 0, none⟩ = some (.int .i64 c.re) ∧ w'.cell? ⟨w.heap.size + 1, 1, none⟩ = some (.int .i64 c.im) ∧ w'.cell? ⟨w.heap.size + 1, 2, none⟩ = some (.int .i64 c.den)) (((try dsimp only); (refine ⟨?_, ?_, ?_, ?_, ?_, ?_⟩ <;> first | (go_keep; done) | (simp [hcA, hcB, c0, c1, c2, d0, d1, d2]; done) | exact (far3 nA).trans (by simp [hcA, hcB, c0, c1, c2, d0, d1, d2]) | exact (far3 nB).trans (by simp [hcA, hcB, c0, c1, c2, d0, d1, d2])))) (first | (go_at_call 80; (with_reducible refine (stimes_any _ _ (a.get k) c _ (by first | omega | (simp <;> omega)) hsc hsf).mono ?_); rintro e w5 ho; obtain ⟨rfl, hs⟩ := ho.fn; have HS := Lib.hid hs; have hcA := hs.atc (w.heap.size) (by show _ < wr.heap.size; omega) (by omega); have hcB := hs.atc (w.heap.size + 1) (by show _ < wr.heap.size; omega) (by omega); have hR := HT.out.room.sm hs (by show _ < wr.heap.size; omega) (by omega); obtain ⟨v0, e0⟩ := Option.isSome_iff_exists.1 (hR (k * 3) (by omega)).1; obtain ⟨v1, e1⟩ := Option.isSome_iff_exists.1 (hR (k * 3 + 1) (by omega)).1; obtain ⟨v2, e2⟩ := Option.isSome_iff_exists.1 (hR (k * 3 + 2) (by omega)).1; have f0 := (hR (k * 3) (by omega)).2; have f1 := (hR (k * 3 + 1) (by omega)).2; have f2 := (hR (k * 3 + 2) (by omega)).2; clear ho hs hR))
        go_wp2
        go_roundw
        case rel => exact ⟨k + 1, by go_num, HT.out.step ⟨a1, a2, a3, a4, a5, a6, a7, a8, a9⟩ h4 HS.out⟩
        case measure => simp [intOf]; omega
      · obtain rfl : k = 4 := by have := hT.le; omega
        have hz := hT.size
        have hsc := hT.cell
        obtain ⟨a1, a2, a3, a4, a5, a6, a7, a8, a9⟩ := o
        have HZ := Lib.hid hT
        cases he : fl (false || !false) (sTimF a c) 4
        · rw [he] at hsc
          have HG : Hid (sTim a c = (m4f (sTimF a c), true)) := by show _ = _; rw [HEQ.out]; unfold m4l gt; rw [he]; rfl
          clear he
          have HO : Hid (BoxAt wr w2.heap.size (m4f (sTimF a c)).get 4) := fun k hk => by rw [m4f_get _ hk]; exact HZ.out.out k hk
          have HR := Lib.hid HZ.out.res
          have HB := Lib.hid HZ.out.below
          have hsz := HZ.out.size
          clear hT HX HY HZ
          go_wp2_with (first | ((with_reducible refine wpList_load_mid ?ke1 51 ?kex ?ke2 (w2.heap.size) 0 ?ke3 (cl (m4f (sTimF a c)).get 4) ?ked ?ke4 ?ke5 ?ke6 ?ke7 ?ke8); (case ke2 => rfl); (case ke1 => rfl); (case ke3 => rfl); (case ke4 => exact (HO.out.range)); (case ke5 => exact Tryd.underlying51); (case ke6 => rfl); (case ke7 => kernel_rfl)) | (go_at_call 95; (with_reducible refine (gotStokes_cl_yes (w.heap.size + 1 + 1 + 1) (m4f (sTimF a c)) _ (by omega) hsc).mono ?_); rintro e w4 ⟨rfl, hb⟩; have HR := Lib.hid (HR.out.below hb (by omega)); have HB := Lib.hid (show Below w.heap.size w w4 from HB.out.trans (hb.mono HB.out.size)); clear hb hsc) | ((with_reducible refine wpList_store_mid ?he1 51 ?hex ?hey ?he2 (w.heap.size + 1 + 1) 0 (cl (m4f (sTimF a c)).get 4).toArray ?he3 ?he4 ?he5 ?he6 ?he7 ?he8); (case he2 => rfl); (case he1 => rfl); (case he3 => rfl); (case he4 => rfl); (case he5 => exact (HR.out.thereC _)); (case he6 => kernel_rfl); (case he7 => exact (cl_one _ _))))
          refine bodyPost_ret (v := .tuple #[.agg (cl (m4f (sTimF a c)).get 4).toArray, .bool true]) ?_ rfl ?_
          · exact Eq.trans (results_cell_mid2 rfl _ _ (w.heap.size + 1 + 1) (cl (m4f (sTimF a c)).get 4) _ (by rfl) (World.rangeAt_setCells_same _ (w.heap.size + 1 + 1) 0 _ (HR.out.thereC _)) Tryd.underlying51 rfl (by kernel_rfl)) rfl
          · exact ⟨by rw [HG.out]; exact congrArg (fun c => Ending.returned (.tuple #[.agg c, .bool true])) (cl4 _), setCells_below _ _ _ HB.out (by omega)⟩
        · rw [he] at hsc
          have HG : Hid (sTim a c = (m4z, false)) := by show _ = _; rw [HEQ.out]; unfold m4l gt; rw [he]; rfl
          clear he
          have HO : Hid (BoxAt wr w2.heap.size (m4f (sTimF a c)).get 4) := fun k hk => by rw [m4f_get _ hk]; exact HZ.out.out k hk
          have HR := Lib.hid HZ.out.res
          have HB := Lib.hid HZ.out.below
          have hsz := HZ.out.size
          clear hT HX HY HZ
          go_wp2_with (first | ((with_reducible refine wpList_load_mid ?kf1 51 ?kfx ?kf2 (w2.heap.size) 0 ?kf3 (cl (m4f (sTimF a c)).get 4) ?kfd ?kf4 ?kf5 ?kf6 ?kf7 ?kf8); (case kf2 => rfl); (case kf1 => rfl); (case kf3 => rfl); (case kf4 => exact (HO.out.range)); (case kf5 => exact Tryd.underlying51); (case kf6 => rfl); (case kf7 => kernel_rfl)) | (go_at_call 95; (with_reducible refine (gotStokes_cl_no (w.heap.size + 1 + 1 + 1) (m4f (sTimF a c)) _ (by omega) hsc).mono ?_); rintro e w4 ⟨rfl, hb⟩; have HR := Lib.hid (HR.out.below hb (by omega)); have HB := Lib.hid (show Below w.heap.size w w4 from HB.out.trans (hb.mono HB.out.size)); clear hb hsc) | ((with_reducible refine wpList_store_mid ?hf1 51 ?hfx ?hfy ?hf2 (w.heap.size + 1 + 1) 0 (cl m4z.get 4).toArray ?hf3 ?hf4 ?hf5 ?hf6 ?hf7 ?hf8); (case hf2 => rfl); (case hf1 => rfl); (case hf3 => rfl); (case hf4 => rfl); (case hf5 => exact (HR.out.thereC _)); (case hf6 => kernel_rfl); (case hf7 => exact (cl_one _ _))))
          refine bodyPost_ret (v := .tuple #[.agg (cl m4z.get 4).toArray, .bool false]) ?_ rfl ?_
          · exact Eq.trans (results_cell_mid2 rfl _ _ (w.heap.size + 1 + 1) (cl m4z.get 4) _ (by rfl) (World.rangeAt_setCells_same _ (w.heap.size + 1 + 1) 0 _ (HR.out.thereC _)) Tryd.underlying51 rfl (by kernel_rfl)) rfl
          · exact ⟨by rw [HG.out]; exact congrArg (fun c => Ending.returned (.tuple #[.agg c, .bool false])) (cl4 _), setCells_below _ _ _ HB.out (by omega)⟩
  have HEQ : Hid (sTim a c = m4l (false || !(realB c)) (sTimF a c)) := by show _ = _; unfold sTim; rw [h1]; rfl
  go_enter Tryd.func47, Tryd.ntmps47
  go_wp2_with fail
  refine (istokesvalid_any a _).mono ?_
  rintro e w1 ⟨rfl, hb⟩
  have HR := Lib.hid (HR.out.below hb (by first | omega | (simp <;> omega)))
  have HX := Lib.hid (HX.out.below hb (by first | omega | (simp <;> omega)))
  have HY := Lib.hid (HY.out.below hb (by first | omega | (simp <;> omega)))
  have HB := Lib.hid (show Below w.heap.size w w1 from HB.out.trans (hb.mono HB.out.size))
  have hsc := (hb.cell (p := ⟨w.heap.size + 1 + 1 + 1, 0, none⟩) (by first | (show _ < _; omega) | (simp <;> omega))).trans hsc
  have hsf := (hb.frozen (p := ⟨w.heap.size + 1 + 1 + 1, 0, none⟩) (by first | (show _ < _; omega) | (simp <;> omega))).trans hsf
  obtain ⟨hc, hf, hz⟩ := bcellk (B := w.heap.size + 1 + 1 + 1 + 1) hb (by first | omega | (simp <;> omega))
  clear hb
  go_wp2_with fail
  refine (realOk_any c _).mono ?_
  rintro e w1 ⟨rfl, hb⟩
  have HR := Lib.hid (HR.out.below hb (by first | omega | (simp <;> omega)))
  have HX := Lib.hid (HX.out.below hb (by first | omega | (simp <;> omega)))
  have HY := Lib.hid (HY.out.below hb (by first | omega | (simp <;> omega)))
  have HB := Lib.hid (show Below w.heap.size w w1 from HB.out.trans (hb.mono HB.out.size))
  have hsc := (hb.cell (p := ⟨w.heap.size + 1 + 1 + 1, 0, none⟩) (by first | (show _ < _; omega) | (simp <;> omega))).trans hsc
  have hsf := (hb.frozen (p := ⟨w.heap.size + 1 + 1 + 1, 0, none⟩) (by first | (show _ < _; omega) | (simp <;> omega))).trans hsf
  obtain ⟨hc, hf, hz⟩ := bcellk (B := w.heap.size + 1 + 1 + 1 + 1) hb (by first | omega | (simp <;> omega))
  clear hb
  go_wp2_with fail
  refine (need_any (w.heap.size + 1 + 1 + 1) false ((realB c)) w1 (by omega) hsc hsf).mono ?_
  rintro e w2 ho
  obtain ⟨rfl, hs⟩ := ho.fn
  have HR := Lib.hid (HR.out.sm hs (by first | omega | (simp <;> omega)) (by omega))
  have HX := Lib.hid (HX.out.sm hs (by first | omega | (simp <;> omega)) (by omega))
  have HY := Lib.hid (HY.out.sm hs (by first | omega | (simp <;> omega)) (by omega))
  have HB := Lib.hid (show Below w.heap.size w w2 from hs.own HB.out (by omega))
  have hsc := hs.cell
  have hsf := hs.free
  have hz : w.heap.size + 1 + 1 + 1 + 1 ≤ w2.heap.size := Nat.le_trans (by first | omega | (simp <;> omega)) hs.size
  clear ho hs
  have o : Ord w (w.heap.size) (w.heap.size + 1) (w.heap.size + 1 + 1) (w.heap.size + 1 + 1 + 1) w2.heap.size := ⟨by omega, by omega, by omega, by omega, by omega, by omega, by omega, by omega, by omega⟩
  go_wp2
  go_loopw [19] (fun i wr => LR w (w.heap.size) (w.heap.size + 1) (w.heap.size + 1 + 1) (w.heap.size + 1 + 1 + 1) w2.heap.size a.get (fun _ => c) 1 (false || !(realB c)) (sTimF a c) i wr) (fun i _ => (4 - intOf i).toNat)
  case atStart =>
    exact ⟨0, rfl, by omega, (HB.out.alloc (by omega) _), by simp, HX.out.alloc (by omega) _, HY.out.alloc (by omega) _, HR.out.alloc (by omega) _, Room.new' rfl rfl, fun k hk => absurd hk (by omega), (World.cell?_alloc_old _ _ _ (by show w.heap.size + 1 + 1 + 1 ≠ w2.heap.size; omega)).trans hsc, by first | exact (World.frozen?_alloc_old _ _ _ (by show w.heap.size + 1 + 1 + 1 ≠ w2.heap.size; omega)).trans hsf⟩
  case round =>
    clear hsc hsf hz
    obtain ⟨k, rfl, hT⟩ := hrel
    by_cases h4 : k < 4
    · obtain ⟨c0, c1, c2⟩ := hT.one k h4
      obtain ⟨d0, d1, d2⟩ := hT.two 0 (by omega)
      have hz := hT.size
      have HT := Lib.hid hT.drew
      have hsc : wr.drew.cell? ⟨w.heap.size + 1 + 1 + 1, 0, none⟩ = _ := hT.cell
      have hsf : wr.drew.frozen? ⟨w.heap.size + 1 + 1 + 1, 0, none⟩ = false := hT.free
      obtain ⟨a1, a2, a3, a4, a5, a6, a7, a8, a9⟩ := o
      have nA : w2.heap.size ≠ w.heap.size := by omega
      have nB : w2.heap.size ≠ w.heap.size + 1 := by omega
      have i0 : (0 : Int) ≤ (k : Int) := by omega
      have i1 : (k : Int) < 4 := by omega
      go_wp2
      go_region_held3 (fun w' => w'.cell? ⟨w.heap.size, k * 3, none⟩ = some (.int .i64 (a.get k).re) ∧ w'.cell? ⟨w.heap.size, k * 3 + 1, none⟩ = some (.int .i64 (a.get k).im) ∧ w'.cell? ⟨w.heap.size, k * 3 + 2, none⟩ = some (.int .i64 (a.get k).den) ∧ w'.cell? ⟨w.heap.size + 1, 0, none⟩ = some (.int .i64 c.re) ∧ w'.cell? ⟨w.heap.size + 1, 1, none⟩ = some (.int .i64 c.im) ∧ w'.cell? ⟨w.heap.size + 1, 2, none⟩ = some (.int .i64 c.den)) (((try dsimp only); (refine ⟨?_, ?_, ?_, ?_, ?_, ?_⟩ <;> first | (go_keep; done) | (simp [hcA, hcB, c0, c1, c2, d0, d1, d2]; done) | exact (far3 nA).trans (by simp [hcA, hcB, c0, c1, c2, d0, d1, d2]) | exact (far3 nB).trans (by simp [hcA, hcB, c0, c1, c2, d0, d1, d2])))) (first | (go_at_call 80; (with_reducible refine (stimes_any _ _ (a.get k) c _ (by first | omega | (simp <;> omega)) hsc hsf).mono ?_); rintro e w5 ho; obtain ⟨rfl, hs⟩ := ho.fn; have HS := Lib.hid hs; have hcA := hs.atc (w.heap.size) (by show _ < wr.heap.size; omega) (by omega); have hcB := hs.atc (w.heap.size + 1) (by show _ < wr.heap.size; omega) (by omega); have hR := HT.out.room.sm hs (by show _ < wr.heap.size; omega) (by omega); obtain ⟨v0, e0⟩ := Option.isSome_iff_exists.1 (hR (k * 3) (by omega)).1; obtain ⟨v1, e1⟩ := Option.isSome_iff_exists.1 (hR (k * 3 + 1) (by omega)).1; obtain ⟨v2, e2⟩ := Option.isSome_iff_exists.1 (hR (k * 3 + 2) (by omega)).1; have f0 := (hR (k * 3) (by omega)).2; have f1 := (hR (k * 3 + 1) (by omega)).2; have f2 := (hR (k * 3 + 2) (by omega)).2; clear ho hs hR))
      go_wp2
      go_roundw
      case rel => exact ⟨k + 1, by go_num, HT.out.step ⟨a1, a2, a3, a4, a5, a6, a7, a8, a9⟩ h4 HS.out⟩
      case measure => simp [intOf]; omega
    · obtain rfl : k = 4 := by have := hT.le; omega
      have hz := hT.size
      have hsc := hT.cell
      obtain ⟨a1, a2, a3, a4, a5, a6, a7, a8, a9⟩ := o
      have HZ := Lib.hid hT
      cases he : fl (false || !(realB c)) (sTimF a c) 4
      · rw [he] at hsc
        have HG : Hid (sTim a c = (m4f (sTimF a c), true)) := by show _ = _; rw [HEQ.out]; unfold m4l gt; rw [he]; rfl
        clear he
        have HO : Hid (BoxAt wr w2.heap.size (m4f (sTimF a c)).get 4) := fun k hk => by rw [m4f_get _ hk]; exact HZ.out.out k hk
        have HR := Lib.hid HZ.out.res
        have HB := Lib.hid HZ.out.below
        have hsz := HZ.out.size
        clear hT HX HY HZ
        go_wp2_with (first | ((with_reducible refine wpList_load_mid ?kg1 51 ?kgx ?kg2 (w2.heap.size) 0 ?kg3 (cl (m4f (sTimF a c)).get 4) ?kgd ?kg4 ?kg5 ?kg6 ?kg7 ?kg8); (case kg2 => rfl); (case kg1 => rfl); (case kg3 => rfl); (case kg4 => exact (HO.out.range)); (case kg5 => exact Tryd.underlying51); (case kg6 => rfl); (case kg7 => kernel_rfl)) | (go_at_call 95; (with_reducible refine (gotStokes_cl_yes (w.heap.size + 1 + 1 + 1) (m4f (sTimF a c)) _ (by omega) hsc).mono ?_); rintro e w4 ⟨rfl, hb⟩; have HR := Lib.hid (HR.out.below hb (by omega)); have HB := Lib.hid (show Below w.heap.size w w4 from HB.out.trans (hb.mono HB.out.size)); clear hb hsc) | ((with_reducible refine wpList_store_mid ?hg1 51 ?hgx ?hgy ?hg2 (w.heap.size + 1 + 1) 0 (cl (m4f (sTimF a c)).get 4).toArray ?hg3 ?hg4 ?hg5 ?hg6 ?hg7 ?hg8); (case hg2 => rfl); (case hg1 => rfl); (case hg3 => rfl); (case hg4 => rfl); (case hg5 => exact (HR.out.thereC _)); (case hg6 => kernel_rfl); (case hg7 => exact (cl_one _ _))))
        refine bodyPost_ret (v := .tuple #[.agg (cl (m4f (sTimF a c)).get 4).toArray, .bool true]) ?_ rfl ?_
        · exact Eq.trans (results_cell_mid2 rfl _ _ (w.heap.size + 1 + 1) (cl (m4f (sTimF a c)).get 4) _ (by rfl) (World.rangeAt_setCells_same _ (w.heap.size + 1 + 1) 0 _ (HR.out.thereC _)) Tryd.underlying51 rfl (by kernel_rfl)) rfl
        · exact ⟨by rw [HG.out]; exact congrArg (fun c => Ending.returned (.tuple #[.agg c, .bool true])) (cl4 _), setCells_below _ _ _ HB.out (by omega)⟩
      · rw [he] at hsc
        have HG : Hid (sTim a c = (m4z, false)) := by show _ = _; rw [HEQ.out]; unfold m4l gt; rw [he]; rfl
        clear he
        have HO : Hid (BoxAt wr w2.heap.size (m4f (sTimF a c)).get 4) := fun k hk => by rw [m4f_get _ hk]; exact HZ.out.out k hk
        have HR := Lib.hid HZ.out.res
        have HB := Lib.hid HZ.out.below
        have hsz := HZ.out.size
        clear hT HX HY HZ
        go_wp2_with (first | ((with_reducible refine wpList_load_mid ?kh1 51 ?khx ?kh2 (w2.heap.size) 0 ?kh3 (cl (m4f (sTimF a c)).get 4) ?khd ?kh4 ?kh5 ?kh6 ?kh7 ?kh8); (case kh2 => rfl); (case kh1 => rfl); (case kh3 => rfl); (case kh4 => exact (HO.out.range)); (case kh5 => exact Tryd.underlying51); (case kh6 => rfl); (case kh7 => kernel_rfl)) | (go_at_call 95; (with_reducible refine (gotStokes_cl_no (w.heap.size + 1 + 1 + 1) (m4f (sTimF a c)) _ (by omega) hsc).mono ?_); rintro e w4 ⟨rfl, hb⟩; have HR := Lib.hid (HR.out.below hb (by omega)); have HB := Lib.hid (show Below w.heap.size w w4 from HB.out.trans (hb.mono HB.out.size)); clear hb hsc) | ((with_reducible refine wpList_store_mid ?hh1 51 ?hhx ?hhy ?hh2 (w.heap.size + 1 + 1) 0 (cl m4z.get 4).toArray ?hh3 ?hh4 ?hh5 ?hh6 ?hh7 ?hh8); (case hh2 => rfl); (case hh1 => rfl); (case hh3 => rfl); (case hh4 => rfl); (case hh5 => exact (HR.out.thereC _)); (case hh6 => kernel_rfl); (case hh7 => exact (cl_one _ _))))
        refine bodyPost_ret (v := .tuple #[.agg (cl m4z.get 4).toArray, .bool false]) ?_ rfl ?_
        · exact Eq.trans (results_cell_mid2 rfl _ _ (w.heap.size + 1 + 1) (cl m4z.get 4) _ (by rfl) (World.rangeAt_setCells_same _ (w.heap.size + 1 + 1) 0 _ (HR.out.thereC _)) Tryd.underlying51 rfl (by kernel_rfl)) rfl
        · exact ⟨by rw [HG.out]; exact congrArg (fun c => Ending.returned (.tuple #[.agg c, .bool false])) (cl4 _), setCells_below _ _ _ HB.out (by omega)⟩
end Go.Proofs.YtmcokdiopcpifaaDoor
