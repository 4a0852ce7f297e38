/- Contracts: loops over four numbers with a reckoning (the program), and step by step (the reference). -/
import Derived.Test.YtmcokdiopcpifaaDoorMsG3
import Derived.Test.YtmcokdiopcpifaaDoorMsV
import Derived.Test.YtmcokdiopcpifaaDoorMsG7
import Derived.Test.YtmcokdiopcpifaaDoorMsN
set_option maxRecDepth 100000
namespace Go.Proofs.YtmcokdiopcpifaaDoor
open Go.RowKit Pol
theorem BoxAt.sm {b : Nat} {v : Bool} {W w1 : World} {N n : Nat} {g : Nat → Fr} (h : BoxAt W N g n) (hs : Sm b v W w1) (hN : N < W.heap.size) (hne : N ≠ b) : BoxAt w1 N g n := fun k hk => by
  obtain ⟨h0, h1, h2⟩ := h k hk
  exact ⟨(hs.atc N hN hne _).trans h0, (hs.atc N hN hne _).trans h1, (hs.atc N hN hne _).trans h2⟩
theorem far3 {w : World} {O i j k : Nat} {u v x : Value} {B o : Nat} (h : O ≠ B) : (((w.setCell ⟨O, i, none⟩ u).setCell ⟨O, j, none⟩ v).setCell ⟨O, k, none⟩ x).cell? ⟨B, o, none⟩ = w.cell? ⟨B, o, none⟩ := by
  rw [World.cell?_setCell_far _ _ _ _ h, World.cell?_setCell_far _ _ _ _ h, World.cell?_setCell_far _ _ _ _ h]
/-- Where the loop stands: k places are done. -/
structure LRel (W : World) (A B R P O : Nat) (ga gb : Nat → Fr) (nb : Nat) (e : Bool) (f : Nat → Fr × Bool) (k : Nat) (wr : World) : Prop where
  le : k ≤ 4
  below : Below W.heap.size W wr
  size : O + 1 ≤ wr.heap.size
  one : BoxAt wr A ga 4
  two : BoxAt wr B gb nb
  res : Room wr R 4
  room : Room wr O 4
  out : BoxAt wr O (fun i => (f i).1) k
  cell : wr.cell? ⟨P, 0, none⟩ = some (.bool (fl e f k))
  free : wr.frozen? ⟨P, 0, none⟩ = false
def LR (W : World) (A B R P O : Nat) (ga gb : Nat → Fr) (nb : Nat) (e : Bool) (f : Nat → Fr × Bool) (i : Value) (wr : World) : Prop := ∃ k : Nat, i = .int .i64 k ∧ LRel W A B R P O ga gb nb e f k wr
/-- The order of the boxes. -/
structure Ord (W : World) (A B R P O : Nat) : Prop where
  hA : A < P
  hB : B < P
  hR : R < P
  hP : P < O
  wP : W.heap.size ≤ P
  wO : W.heap.size ≤ O
  nA : A ≠ O
  nB : B ≠ O
  nR : R ≠ O
theorem LRel.step {W wr w1 : World} {A B R P O : Nat} {ga gb : Nat → Fr} {nb : Nat} {e : Bool} {f : Nat → Fr × Bool} {k : Nat} (h : LRel W A B R P O ga gb nb e f k wr) (o : Ord W A B R P O) (hk : k < 4) (hs : Sm P (fl e f (k + 1)) wr w1) : LRel W A B R P O ga gb nb e f (k + 1) (putF w1 O k (f k).1) := by
  have hz := h.size
  obtain ⟨a1, a2, a3, a4, a5, a6, a7, a8, a9⟩ := o
  refine ⟨hk, ?_, ?_, ?_, ?_, ?_, ?_, ?_, ?_, ?_⟩
  · have := hs.own h.below a5
    exact ((this.setCell a6 _).setCell a6 _).setCell a6 _
  · rw [putF_size]; exact Nat.le_trans hz hs.size
  · exact (h.one.sm hs (by omega) (by omega)).put_other (by omega) k _
  · exact (h.two.sm hs (by omega) (by omega)).put_other (by omega) k _
  · exact (h.res.sm hs (by omega) (by omega)).put _ _ _
  · exact (h.room.sm hs (by omega) (by omega)).put _ _ _
  · exact (h.out.sm hs (by omega) (by omega)).put (h.room.sm hs (by omega) (by omega)) hk
  · have : ∀ (a : World) (j : Nat) (v : Value), (a.setCell ⟨O, j, none⟩ v).cell? ⟨P, 0, none⟩ = a.cell? ⟨P, 0, none⟩ := fun a j v => World.cell?_setCell_far _ _ _ _ (by show O ≠ P; omega)
    show (putF w1 O k (f k).1).cell? _ = _
    unfold putF; rw [this, this, this]; exact hs.cell
  · show (putF w1 O k (f k).1).frozen? _ = _
    unfold putF; rw [World.frozen?_setCell, World.frozen?_setCell, World.frozen?_setCell]; exact hs.free
theorem LRel.drew {W wr : World} {A B R P O : Nat} {ga gb : Nat → Fr} {nb : Nat} {e : Bool} {f : Nat → Fr × Bool} {k : Nat} (h : LRel W A B R P O ga gb nb e f k wr) : LRel W A B R P O ga gb nb e f k wr.drew := ⟨h.le, h.below.drew, h.size, h.one, h.two, h.res, h.room, h.out, h.cell, h.free⟩
theorem LRel.drewN {W wr : World} {A B R P O : Nat} {ga gb : Nat → Fr} {nb : Nat} {e : Bool} {f : Nat → Fr × Bool} {k q : Nat} (h : LRel W A B R P O ga gb nb e f k wr) : LRel W A B R P O ga gb nb e f k (wr.drewN q) := ⟨h.le, below_drewN h.below q, h.size, h.one, h.two, h.res, h.room, h.out, h.cell, h.free⟩
theorem gotMat_cl_yes (b : Nat) (x : M4) (w : World) (hb0 : b < w.heap.size) (hc0 : w.cell? ⟨b, 0, none⟩ = some (.bool false)) :
    Calls Tryd.prog 110 #[.pointer (some ⟨b, 0, none⟩), .agg (cl x.get 4).toArray] w fun e w' => e = .returned (.tuple #[.agg (cl x.get 4).toArray, .bool true]) ∧ Below w.heap.size w w' := by
  rw [cl4 x]; exact gotMat_yes b x w hb0 hc0
theorem gotMat_cl_no (b : Nat) (x : M4) (w : World) (hb0 : b < w.heap.size) (hc0 : w.cell? ⟨b, 0, none⟩ = some (.bool true)) :
    Calls Tryd.prog 110 #[.pointer (some ⟨b, 0, none⟩), .agg (cl x.get 4).toArray] w fun e w' => e = .returned (.tuple #[.agg (cl m4z.get 4).toArray, .bool false]) ∧ Below w.heap.size w w' := by
  rw [cl4 x, cl4 m4z]; exact gotMat_no b x w hb0 hc0
theorem src4 (m : M4) (k : Nat) (hk : k < 4) : (#[.int .i64 m.a.re, .int .i64 m.a.im, .int .i64 m.a.den, .int .i64 m.b.re, .int .i64 m.b.im, .int .i64 m.b.den, .int .i64 m.c.re, .int .i64 m.c.im, .int .i64 m.c.den, .int .i64 m.d.re, .int .i64 m.d.im, .int .i64 m.d.den] : Array Value)[k * 3]? = some (.int .i64 (m.get k).re) ∧ (#[.int .i64 m.a.re, .int .i64 m.a.im, .int .i64 m.a.den, .int .i64 m.b.re, .int .i64 m.b.im, .int .i64 m.b.den, .int .i64 m.c.re, .int .i64 m.c.im, .int .i64 m.c.den, .int .i64 m.d.re, .int .i64 m.d.im, .int .i64 m.d.den] : Array Value)[k * 3 + 1]? = some (.int .i64 (m.get k).im) ∧ (#[.int .i64 m.a.re, .int .i64 m.a.im, .int .i64 m.a.den, .int .i64 m.b.re, .int .i64 m.b.im, .int .i64 m.b.den, .int .i64 m.c.re, .int .i64 m.c.im, .int .i64 m.c.den, .int .i64 m.d.re, .int .i64 m.d.im, .int .i64 m.d.den] : Array Value)[k * 3 + 2]? = some (.int .i64 (m.get k).den) := by
  have : k = 0 ∨ k = 1 ∨ k = 2 ∨ k = 3 := by omega
  rcases this with rfl | rfl | rfl | rfl <;> exact ⟨rfl, rfl, rfl⟩
theorem src1 (f : Fr) (k : Nat) (hk : k < 1) : (#[.int .i64 f.re, .int .i64 f.im, .int .i64 f.den] : Array Value)[k * 3]? = some (.int .i64 f.re) ∧ (#[.int .i64 f.re, .int .i64 f.im, .int .i64 f.den] : Array Value)[k * 3 + 1]? = some (.int .i64 f.im) ∧ (#[.int .i64 f.re, .int .i64 f.im, .int .i64 f.den] : Array Value)[k * 3 + 2]? = some (.int .i64 f.den) := by
  obtain rfl : k = 0 := by omega
  exact ⟨rfl, rfl, rfl⟩
set_option maxRecDepth 100000 in
set_option maxHeartbeats 40000000 in
theorem isca_any (a : M4) (c : Fr) (w : World) :
    Calls Tryd.prog 57 #[.agg #[.int .i64 a.a.re, .int .i64 a.a.im, .int .i64 a.a.den, .int .i64 a.b.re, .int .i64 a.b.im, .int .i64 a.b.den, .int .i64 a.c.re, .int .i64 a.c.im, .int .i64 a.c.den, .int .i64 a.d.re, .int .i64 a.d.im, .int .i64 a.d.den], .agg #[.int .i64 c.re, .int .i64 c.im, .int .i64 c.den]] w (M4Out (mSca a c) w) := by
  have HB : Hid (Below w.heap.size w ((((w.alloc (.cells #[.int .i64 a.a.re, .int .i64 a.a.im, .int .i64 a.a.den, .int .i64 a.b.re, .int .i64 a.b.im, .int .i64 a.b.den, .int .i64 a.c.re, .int .i64 a.c.im, .int .i64 a.c.den, .int .i64 a.d.re, .int .i64 a.d.im, .int .i64 a.d.den] 41)).alloc (.cells #[.int .i64 c.re, .int .i64 c.im, .int .i64 c.den] 23)).alloc (.cells #[.int .i64 0, .int .i64 0, .int .i64 0, .int .i64 0, .int .i64 0, .int .i64 0, .int .i64 0, .int .i64 0, .int .i64 0, .int .i64 0, .int .i64 0, .int .i64 0] 41)).alloc (.cells #[.bool false] 102))) := by
    show Below _ _ _
    (repeat' first | exact Below.refl _ _ | apply bl_alloc | apply bl_drewN | apply bl_drew | refine bl_trans ?_ (by assumption) | refine bl_set ?_ (by first | omega | (simp <;> omega)) _)
  have HR : Hid (Room ((((w.alloc (.cells #[.int .i64 a.a.re, .int .i64 a.a.im, .int .i64 a.a.den, .int .i64 a.b.re, .int .i64 a.b.im, .int .i64 a.b.den, .int .i64 a.c.re, .int .i64 a.c.im, .int .i64 a.c.den, .int .i64 a.d.re, .int .i64 a.d.im, .int .i64 a.d.den] 41)).alloc (.cells #[.int .i64 c.re, .int .i64 c.im, .int .i64 c.den] 23)).alloc (.cells #[.int .i64 0, .int .i64 0, .int .i64 0, .int .i64 0, .int .i64 0, .int .i64 0, .int .i64 0, .int .i64 0, .int .i64 0, .int .i64 0, .int .i64 0, .int .i64 0] 41)).alloc (.cells #[.bool false] 102)) (w.heap.size + 1 + 1) 4) := by
    show Room _ _ _
    exact (Room.new' (by simp) rfl).alloc (by simp) _
  have HX : Hid (BoxAt ((((w.alloc (.cells #[.int .i64 a.a.re, .int .i64 a.a.im, .int .i64 a.a.den, .int .i64 a.b.re, .int .i64 a.b.im, .int .i64 a.b.den, .int .i64 a.c.re, .int .i64 a.c.im, .int .i64 a.c.den, .int .i64 a.d.re, .int .i64 a.d.im, .int .i64 a.d.den] 41)).alloc (.cells #[.int .i64 c.re, .int .i64 c.im, .int .i64 c.den] 23)).alloc (.cells #[.int .i64 0, .int .i64 0, .int .i64 0, .int .i64 0, .int .i64 0, .int .i64 0, .int .i64 0, .int .i64 0, .int .i64 0, .int .i64 0, .int .i64 0, .int .i64 0] 41)).alloc (.cells #[.bool false] 102)) (w.heap.size) a.get 4) := by
    show BoxAt _ _ _ _
    exact (((BoxAt.new _ _ _ _ _ (src4 a)).alloc (by simp) _).alloc (by simp) _).alloc (by simp) _
  have HY : Hid (BoxAt ((((w.alloc (.cells #[.int .i64 a.a.re, .int .i64 a.a.im, .int .i64 a.a.den, .int .i64 a.b.re, .int .i64 a.b.im, .int .i64 a.b.den, .int .i64 a.c.re, .int .i64 a.c.im, .int .i64 a.c.den, .int .i64 a.d.re, .int .i64 a.d.im, .int .i64 a.d.den] 41)).alloc (.cells #[.int .i64 c.re, .int .i64 c.im, .int .i64 c.den] 23)).alloc (.cells #[.int .i64 0, .int .i64 0, .int .i64 0, .int .i64 0, .int .i64 0, .int .i64 0, .int .i64 0, .int .i64 0, .int .i64 0, .int .i64 0, .int .i64 0, .int .i64 0] 41)).alloc (.cells #[.bool false] 102)) (w.heap.size + 1) (fun _ => c) 1) := by
    show BoxAt _ _ _ _
    exact ((BoxAt.new' (by simp) (src1 c)).alloc (by simp) _).alloc (by simp) _
  have hsc : ((((w.alloc (.cells #[.int .i64 a.a.re, .int .i64 a.a.im, .int .i64 a.a.den, .int .i64 a.b.re, .int .i64 a.b.im, .int .i64 a.b.den, .int .i64 a.c.re, .int .i64 a.c.im, .int .i64 a.c.den, .int .i64 a.d.re, .int .i64 a.d.im, .int .i64 a.d.den] 41)).alloc (.cells #[.int .i64 c.re, .int .i64 c.im, .int .i64 c.den] 23)).alloc (.cells #[.int .i64 0, .int .i64 0, .int .i64 0, .int .i64 0, .int .i64 0, .int .i64 0, .int .i64 0, .int .i64 0, .int .i64 0, .int .i64 0, .int .i64 0, .int .i64 0] 41)).alloc (.cells #[.bool false] 102)).cell? ⟨w.heap.size + 1 + 1 + 1, 0, none⟩ = some (.bool false) := by simp [go_sem]
  have hsf : ((((w.alloc (.cells #[.int .i64 a.a.re, .int .i64 a.a.im, .int .i64 a.a.den, .int .i64 a.b.re, .int .i64 a.b.im, .int .i64 a.b.den, .int .i64 a.c.re, .int .i64 a.c.im, .int .i64 a.c.den, .int .i64 a.d.re, .int .i64 a.d.im, .int .i64 a.d.den] 41)).alloc (.cells #[.int .i64 c.re, .int .i64 c.im, .int .i64 c.den] 23)).alloc (.cells #[.int .i64 0, .int .i64 0, .int .i64 0, .int .i64 0, .int .i64 0, .int .i64 0, .int .i64 0, .int .i64 0, .int .i64 0, .int .i64 0, .int .i64 0, .int .i64 0] 41)).alloc (.cells #[.bool false] 102)).frozen? ⟨w.heap.size + 1 + 1 + 1, 0, none⟩ = false := by simp [go_sem]
  cases h1 : all4 vld a
  · have HEQ : Hid (mSca a c = m4l (false || !false) (sTimF a c)) := by show _ = _; unfold mSca; rw [h1]; rfl
    go_enter Tryd.func57, Tryd.ntmps57
    go_wp2_with fail
    refine (imatvalid_any a _).mono ?_
    rintro e w1 ⟨rfl, hb⟩
    have HR := Lib.hid (HR.out.below hb (by first | omega | (simp <;> omega)))
    have HX := Lib.hid (HX.out.below hb (by first | omega | (simp <;> omega)))
    have HY := Lib.hid (HY.out.below hb (by first | omega | (simp <;> omega)))
    have HB := Lib.hid (show Below w.heap.size w w1 from HB.out.trans (hb.mono HB.out.size))
    have hsc := (hb.cell (p := ⟨w.heap.size + 1 + 1 + 1, 0, none⟩) (by first | (show _ < _; omega) | (simp <;> omega))).trans hsc
    have hsf := (hb.frozen (p := ⟨w.heap.size + 1 + 1 + 1, 0, none⟩) (by first | (show _ < _; omega) | (simp <;> omega))).trans hsf
    obtain ⟨hc, hf, hz⟩ := bcellk (B := w.heap.size + 1 + 1 + 1 + 1) hb (by first | omega | (simp <;> omega))
    clear hb
    go_wp2_with fail
    refine (need_any (w.heap.size + 1 + 1 + 1) false (false) w1 (by omega) hsc hsf).mono ?_
    rintro e w2 ho
    obtain ⟨rfl, hs⟩ := ho.fn
    have HR := Lib.hid (HR.out.sm hs (by first | omega | (simp <;> omega)) (by omega))
    have HX := Lib.hid (HX.out.sm hs (by first | omega | (simp <;> omega)) (by omega))
    have HY := Lib.hid (HY.out.sm hs (by first | omega | (simp <;> omega)) (by omega))
    have HB := Lib.hid (show Below w.heap.size w w2 from hs.own HB.out (by omega))
    have hsc := hs.cell
    have hsf := hs.free
    have hz : w.heap.size + 1 + 1 + 1 + 1 ≤ w2.heap.size := Nat.le_trans (by first | omega | (simp <;> omega)) hs.size
    clear ho hs
    have o : Ord w (w.heap.size) (w.heap.size + 1) (w.heap.size + 1 + 1) (w.heap.size + 1 + 1 + 1) w2.heap.size := ⟨by omega, by omega, by omega, by omega, by omega, by omega, by omega, by omega, by omega⟩
    go_wp2
    go_loopw [19] (fun i wr => LR w (w.heap.size) (w.heap.size + 1) (w.heap.size + 1 + 1) (w.heap.size + 1 + 1 + 1) w2.heap.size a.get (fun _ => c) 1 (false || !false) (sTimF a c) i wr) (fun i _ => (4 - intOf i).toNat)
    case atStart =>
      exact ⟨0, rfl, by omega, (HB.out.alloc (by omega) _), by simp, HX.out.alloc (by omega) _, HY.out.alloc (by omega) _, HR.out.alloc (by omega) _, Room.new' rfl rfl, fun k hk => absurd hk (by omega), (World.cell?_alloc_old _ _ _ (by show w.heap.size + 1 + 1 + 1 ≠ w2.heap.size; omega)).trans hsc, by first | exact (World.frozen?_alloc_old _ _ _ (by show w.heap.size + 1 + 1 + 1 ≠ w2.heap.size; omega)).trans hsf⟩
    case round =>
      clear hsc hsf hz
      obtain ⟨k, rfl, hT⟩ := hrel
      by_cases h4 : k < 4
      · obtain ⟨c0, c1, c2⟩ := hT.one k h4
        obtain ⟨d0, d1, d2⟩ := hT.two 0 (by omega)
        have hz := hT.size
        have HT := Lib.hid hT.drew
        have hsc : wr.drew.cell? ⟨w.heap.size + 1 + 1 + 1, 0, none⟩ = _ := hT.cell
        have hsf : wr.drew.frozen? ⟨w.heap.size + 1 + 1 + 1, 0, none⟩ = false := hT.free
        obtain ⟨a1, a2, a3, a4, a5, a6, a7, a8, a9⟩ := o
        have nA : w2.heap.size ≠ w.heap.size := by omega
        have nB : w2.heap.size ≠ w.heap.size + 1 := by omega
        have i0 : (0 : Int) ≤ (k : Int) := by omega
        have i1 : (k : Int) < 4 := by omega
        go_wp2
        go_region_held3 (fun w' => w'.cell? ⟨w.heap.size, k * 3, none⟩ = some (.int .i64 (a.get k).re) ∧ w'.cell? ⟨w.heap.size, k * 3 + 1, none⟩ = some (.int .i64 (a.get k).im) ∧ w'.cell? ⟨w.heap.size, k * 3 + 2, none⟩ = some (.int .i64 (a.get k).den) ∧ w'.cell? ⟨w.heap.size + 1, 0, none⟩ = some (.int .i64 c.re) ∧ w'.cell? ⟨w.heap.size + 1, 1, none⟩ = some (.int .i64 c.im) ∧ w'.cell? ⟨w.heap.size + 1, 2, none⟩ = some (.int .i64 c.den)) (((try dsimp only); (refine ⟨?_, ?_, ?_, ?_, ?_, ?_⟩ <;> first | (go_keep; done) | (simp [hcA, hcB, c0, c1, c2, d0, d1, d2]; done) | exact (far3 nA).trans (by simp [hcA, hcB, c0, c1, c2, d0, d1, d2]) | exact (far3 nB).trans (by simp [hcA, hcB, c0, c1, c2, d0, d1, d2])))) (first | (go_at_call 80; (with_reducible refine (stimes_any _ _ (a.get k) c _ (by first | omega | (simp <;> omega)) hsc hsf).mono ?_); rintro e w5 ho; obtain ⟨rfl, hs⟩ := ho.fn; have HS := Lib.hid hs; have hcA := hs.atc (w.heap.size) (by show _ < wr.heap.size; omega) (by omega); have hcB := hs.atc (w.heap.size + 1) (by show _ < wr.heap.size; omega) (by omega); have hR := HT.out.room.sm hs (by show _ < wr.heap.size; omega) (by omega); obtain ⟨v0, e0⟩ := Option.isSome_iff_exists.1 (hR (k * 3) (by omega)).1; obtain ⟨v1, e1⟩ := Option.isSome_iff_exists.1 (hR (k * 3 + 1) (by omega)).1; obtain ⟨v2, e2⟩ := Option.isSome_iff_exists.1 (hR (k * 3 + 2) (by omega)).1; have f0 := (hR (k * 3) (by omega)).2; have f1 := (hR (k * 3 + 1) (by omega)).2; have f2 := (hR (k * 3 + 2) (by omega)).2; clear ho hs hR))
        go_wp2
        go_roundw
        case rel => exact ⟨k + 1, by go_num, HT.out.step ⟨a1, a2, a3, a4, a5, a6, a7, a8, a9⟩ h4 HS.out⟩
        case measure => simp [intOf]; omega
      · obtain rfl : k = 4 := by have := hT.le; omega
        have hz := hT.size
        have hsc := hT.cell
        obtain ⟨a1, a2, a3, a4, a5, a6, a7, a8, a9⟩ := o
        have HZ := Lib.hid hT
        cases he : fl (false || !false) (sTimF a c) 4
        · rw [he] at hsc
          have HG : Hid (mSca a c = (m4f (sTimF a c), true)) := by show _ = _; rw [HEQ.out]; unfold m4l gt; rw [he]; rfl
          clear he
          have HO : Hid (BoxAt wr w2.heap.size (m4f (sTimF a c)).get 4) := fun k hk => by rw [m4f_get _ hk]; exact HZ.out.out k hk
          have HR := Lib.hid HZ.out.res
          have HB := Lib.hid HZ.out.below
          have hsz := HZ.out.size
          clear hT HX HY HZ
          go_wp2_with (first | ((with_reducible refine wpList_load_mid ?ki1 41 ?kix ?ki2 (w2.heap.size) 0 ?ki3 (cl (m4f (sTimF a c)).get 4) ?kid ?ki4 ?ki5 ?ki6 ?ki7 ?ki8); (case ki2 => rfl); (case ki1 => rfl); (case ki3 => rfl); (case ki4 => exact (HO.out.range)); (case ki5 => exact Tryd.underlying41); (case ki6 => rfl); (case ki7 => kernel_rfl)) | (go_at_call 110; (with_reducible refine (gotMat_cl_yes (w.heap.size + 1 + 1 + 1) (m4f (sTimF a c)) _ (by omega) hsc).mono ?_); rintro e w4 ⟨rfl, hb⟩; have HR := Lib.hid (HR.out.below hb (by omega)); have HB := Lib.hid (show Below w.heap.size w w4 from HB.out.trans (hb.mono HB.out.size)); clear hb hsc) | ((with_reducible refine wpList_store_mid ?hi1 41 ?hix ?hiy ?hi2 (w.heap.size + 1 + 1) 0 (cl (m4f (sTimF a c)).get 4).toArray ?hi3 ?hi4 ?hi5 ?hi6 ?hi7 ?hi8); (case hi2 => rfl); (case hi1 => rfl); (case hi3 => rfl); (case hi4 => rfl); (case hi5 => exact (HR.out.thereC _)); (case hi6 => kernel_rfl); (case hi7 => exact (cl_one _ _))))
          refine bodyPost_ret (v := .tuple #[.agg (cl (m4f (sTimF a c)).get 4).toArray, .bool true]) ?_ rfl ?_
          · exact Eq.trans (results_cell_mid2 rfl _ _ (w.heap.size + 1 + 1) (cl (m4f (sTimF a c)).get 4) _ (by rfl) (World.rangeAt_setCells_same _ (w.heap.size + 1 + 1) 0 _ (HR.out.thereC _)) Tryd.underlying41 rfl (by kernel_rfl)) rfl
          · exact ⟨by rw [HG.out]; exact congrArg (fun c => Ending.returned (.tuple #[.agg c, .bool true])) (cl4 _), setCells_below _ _ _ HB.out (by omega)⟩
        · rw [he] at hsc
          have HG : Hid (mSca a c = (m4z, false)) := by show _ = _; rw [HEQ.out]; unfold m4l gt; rw [he]; rfl
          clear he
          have HO : Hid (BoxAt wr w2.heap.size (m4f (sTimF a c)).get 4) := fun k hk => by rw [m4f_get _ hk]; exact HZ.out.out k hk
          have HR := Lib.hid HZ.out.res
          have HB := Lib.hid HZ.out.below
          have hsz := HZ.out.size
          clear hT HX HY HZ
          go_wp2_with (first | ((with_reducible refine wpList_load_mid ?kj1 41 ?kjx ?kj2 (w2.heap.size) 0 ?kj3 (cl (m4f (sTimF a c)).get 4) ?kjd ?kj4 ?kj5 ?kj6 ?kj7 ?kj8); (case kj2 => rfl); (case kj1 => rfl); (case kj3 => rfl); (case kj4 => exact (HO.out.range)); (case kj5 => exact Tryd.underlying41); (case kj6 => rfl); (case kj7 => kernel_rfl)) | (go_at_call 110; (with_reducible refine (gotMat_cl_no (w.heap.size + 1 + 1 + 1) (m4f (sTimF a c)) _ (by omega) hsc).mono ?_); rintro e w4 ⟨rfl, hb⟩; have HR := Lib.hid (HR.out.below hb (by omega)); have HB := Lib.hid (show Below w.heap.size w w4 from HB.out.trans (hb.mono HB.out.size)); clear hb hsc) | ((with_reducible refine wpList_store_mid ?hj1 41 ?hjx ?hjy ?hj2 (w.heap.size + 1 + 1) 0 (cl m4z.get 4).toArray ?hj3 ?hj4 ?hj5 ?hj6 ?hj7 ?hj8); (case hj2 => rfl); (case hj1 => rfl); (case hj3 => rfl); (case hj4 => rfl); (case hj5 => exact (HR.out.thereC _)); (case hj6 => kernel_rfl); (case hj7 => exact (cl_one _ _))))
          refine bodyPost_ret (v := .tuple #[.agg (cl m4z.get 4).toArray, .bool false]) ?_ rfl ?_
          · exact Eq.trans (results_cell_mid2 rfl _ _ (w.heap.size + 1 + 1) (cl m4z.get 4) _ (by rfl) (World.rangeAt_setCells_same _ (w.heap.size + 1 + 1) 0 _ (HR.out.thereC _)) Tryd.underlying41 rfl (by kernel_rfl)) rfl
          · exact ⟨by rw [HG.out]; exact congrArg (fun c => Ending.returned (.tuple #[.agg c, .bool false])) (cl4 _), setCells_below _ _ _ HB.out (by omega)⟩
  have HEQ : Hid (mSca a c = m4l (false || !(vld c)) (sTimF a c)) := by show _ = _; unfold mSca; rw [h1]; rfl
  go_enter Tryd.func57, Tryd.ntmps57
  go_wp2_with fail
  refine (imatvalid_any a _).mono ?_
  rintro e w1 ⟨rfl, hb⟩
  have HR := Lib.hid (HR.out.below hb (by first | omega | (simp <;> omega)))
  have HX := Lib.hid (HX.out.below hb (by first | omega | (simp <;> omega)))
  have HY := Lib.hid (HY.out.below hb (by first | omega | (simp <;> omega)))
  have HB := Lib.hid (show Below w.heap.size w w1 from HB.out.trans (hb.mono HB.out.size))
  have hsc := (hb.cell (p := ⟨w.heap.size + 1 + 1 + 1, 0, none⟩) (by first | (show _ < _; omega) | (simp <;> omega))).trans hsc
  have hsf := (hb.frozen (p := ⟨w.heap.size + 1 + 1 + 1, 0, none⟩) (by first | (show _ < _; omega) | (simp <;> omega))).trans hsf
  obtain ⟨hc, hf, hz⟩ := bcellk (B := w.heap.size + 1 + 1 + 1 + 1) hb (by first | omega | (simp <;> omega))
  clear hb
  go_wp2_with fail
  refine (valid_fr c _).mono ?_
  rintro e w1 ⟨rfl, hb⟩
  have HR := Lib.hid (HR.out.below hb (by first | omega | (simp <;> omega)))
  have HX := Lib.hid (HX.out.below hb (by first | omega | (simp <;> omega)))
  have HY := Lib.hid (HY.out.below hb (by first | omega | (simp <;> omega)))
  have HB := Lib.hid (show Below w.heap.size w w1 from HB.out.trans (hb.mono HB.out.size))
  have hsc := (hb.cell (p := ⟨w.heap.size + 1 + 1 + 1, 0, none⟩) (by first | (show _ < _; omega) | (simp <;> omega))).trans hsc
  have hsf := (hb.frozen (p := ⟨w.heap.size + 1 + 1 + 1, 0, none⟩) (by first | (show _ < _; omega) | (simp <;> omega))).trans hsf
  obtain ⟨hc, hf, hz⟩ := bcellk (B := w.heap.size + 1 + 1 + 1 + 1) hb (by first | omega | (simp <;> omega))
  clear hb
  go_wp2_with fail
  refine (need_any (w.heap.size + 1 + 1 + 1) false ((vld c)) w1 (by omega) hsc hsf).mono ?_
  rintro e w2 ho
  obtain ⟨rfl, hs⟩ := ho.fn
  have HR := Lib.hid (HR.out.sm hs (by first | omega | (simp <;> omega)) (by omega))
  have HX := Lib.hid (HX.out.sm hs (by first | omega | (simp <;> omega)) (by omega))
  have HY := Lib.hid (HY.out.sm hs (by first | omega | (simp <;> omega)) (by omega))
  have HB := Lib.hid (show Below w.heap.size w w2 from hs.own HB.out (by omega))
  have hsc := hs.cell
  have hsf := hs.free
  have hz : w.heap.size + 1 + 1 + 1 + 1 ≤ w2.heap.size := Nat.le_trans (by first | omega | (simp <;> omega)) hs.size
  clear ho hs
  have o : Ord w (w.heap.size) (w.heap.size + 1) (w.heap.size + 1 + 1) (w.heap.size + 1 + 1 + 1) w2.heap.size := ⟨by omega, by omega, by omega, by omega, by omega, by omega, by omega, by omega, by omega⟩
  go_wp2
  go_loopw [19] (fun i wr => LR w (w.heap.size) (w.heap.size + 1) (w.heap.size + 1 + 1) (w.heap.size + 1 + 1 + 1) w2.heap.size a.get (fun _ => c) 1 (false || !(vld c)) (sTimF a c) i wr) (fun i _ => (4 - intOf i).toNat)
  case atStart =>
    exact ⟨0, rfl, by omega, (HB.out.alloc (by omega) _), by simp, HX.out.alloc (by omega) _, HY.out.alloc (by omega) _, HR.out.alloc (by omega) _, Room.new' rfl rfl, fun k hk => absurd hk (by omega), (World.cell?_alloc_old _ _ _ (by show w.heap.size + 1 + 1 + 1 ≠ w2.heap.size; omega)).trans hsc, by first | exact (World.frozen?_alloc_old _ _ _ (by show w.heap.size + 1 + 1 + 1 ≠ w2.heap.size; omega)).trans hsf⟩
  case round =>
    clear hsc hsf hz
    obtain ⟨k, rfl, hT⟩ := hrel
    by_cases h4 : k < 4
    · obtain ⟨c0, c1, c2⟩ := hT.one k h4
      obtain ⟨d0, d1, d2⟩ := hT.two 0 (by omega)
      have hz := hT.size
      have HT := Lib.hid hT.drew
      have hsc : wr.drew.cell? ⟨w.heap.size + 1 + 1 + 1, 0, none⟩ = _ := hT.cell
      have hsf : wr.drew.frozen? ⟨w.heap.size + 1 + 1 + 1, 0, none⟩ = false := hT.free
      obtain ⟨a1, a2, a3, a4, a5, a6, a7, a8, a9⟩ := o
      have nA : w2.heap.size ≠ w.heap.size := by omega
      have nB : w2.heap.size ≠ w.heap.size + 1 := by omega
      have i0 : (0 : Int) ≤ (k : Int) := by omega
      have i1 : (k : Int) < 4 := by omega
      go_wp2
      go_region_held3 (fun w' => w'.cell? ⟨w.heap.size, k * 3, none⟩ = some (.int .i64 (a.get k).re) ∧ w'.cell? ⟨w.heap.size, k * 3 + 1, none⟩ = some (.int .i64 (a.get k).im) ∧ w'.cell? ⟨w.heap.size, k * 3 + 2, none⟩ = some (.int .i64 (a.get k).den) ∧ w'.cell? ⟨w.heap.size + 1, 0, none⟩ = some (.int .i64 c.re) ∧ w'.cell? ⟨w.heap.size + 1, 1, none⟩ = some (.int .i64 c.im) ∧ w'.cell? ⟨w.heap.size + 1, 2, none⟩ = some (.int .i64 c.den)) (((try dsimp only); (refine ⟨?_, ?_, ?_, ?_, ?_, ?_⟩ <;> first | (go_keep; done) | (simp [hcA, hcB, c0, c1, c2, d0, d1, d2]; done) | exact (far3 nA).trans (by simp [hcA, hcB, c0, c1, c2, d0, d1, d2]) | exact (far3 nB).trans (by simp [hcA, hcB, c0, c1, c2, d0, d1, d2])))) (first | (go_at_call 80; (with_reducible refine (stimes_any _ _ (a.get k) c _ (by first | omega | (simp <;> omega)) hsc hsf).mono ?_); rintro e w5 ho; obtain ⟨rfl, hs⟩ := ho.fn; have HS := Lib.hid hs; have hcA := hs.atc (w.heap.size) (by show _ < wr.heap.size; omega) (by omega); have hcB := hs.atc (w.heap.size + 1) (by show _ < wr.heap.size; omega) (by omega); have hR := HT.out.room.sm hs (by show _ < wr.heap.size; omega) (by omega); obtain ⟨v0, e0⟩ := Option.isSome_iff_exists.1 (hR (k * 3) (by omega)).1; obtain ⟨v1, e1⟩ := Option.isSome_iff_exists.1 (hR (k * 3 + 1) (by omega)).1; obtain ⟨v2, e2⟩ := Option.isSome_iff_exists.1 (hR (k * 3 + 2) (by omega)).1; have f0 := (hR (k * 3) (by omega)).2; have f1 := (hR (k * 3 + 1) (by omega)).2; have f2 := (hR (k * 3 + 2) (by omega)).2; clear ho hs hR))
      go_wp2
      go_roundw
      case rel => exact ⟨k + 1, by go_num, HT.out.step ⟨a1, a2, a3, a4, a5, a6, a7, a8, a9⟩ h4 HS.out⟩
      case measure => simp [intOf]; omega
    · obtain rfl : k = 4 := by have := hT.le; omega
      have hz := hT.size
      have hsc := hT.cell
      obtain ⟨a1, a2, a3, a4, a5, a6, a7, a8, a9⟩ := o
      have HZ := Lib.hid hT
      cases he : fl (false || !(vld c)) (sTimF a c) 4
      · rw [he] at hsc
        have HG : Hid (mSca a c = (m4f (sTimF a c), true)) := by show _ = _; rw [HEQ.out]; unfold m4l gt; rw [he]; rfl
        clear he
        have HO : Hid (BoxAt wr w2.heap.size (m4f (sTimF a c)).get 4) := fun k hk => by rw [m4f_get _ hk]; exact HZ.out.out k hk
        have HR := Lib.hid HZ.out.res
        have HB := Lib.hid HZ.out.below
        have hsz := HZ.out.size
        clear hT HX HY HZ
        go_wp2_with (first | ((with_reducible refine wpList_load_mid ?kk1 41 ?kkx ?kk2 (w2.heap.size) 0 ?kk3 (cl (m4f (sTimF a c)).get 4) ?kkd ?kk4 ?kk5 ?kk6 ?kk7 ?kk8); (case kk2 => rfl); (case kk1 => rfl); (case kk3 => rfl); (case kk4 => exact (HO.out.range)); (case kk5 => exact Tryd.underlying41); (case kk6 => rfl); (case kk7 => kernel_rfl)) | (go_at_call 110; (with_reducible refine (gotMat_cl_yes (w.heap.size + 1 + 1 + 1) (m4f (sTimF a c)) _ (by omega) hsc).mono ?_); rintro e w4 ⟨rfl, hb⟩; have HR := Lib.hid (HR.out.below hb (by omega)); have HB := Lib.hid (show Below w.heap.size w w4 from HB.out.trans (hb.mono HB.out.size)); clear hb hsc) | ((with_reducible refine wpList_store_mid ?hk1 41 ?hkx ?hky ?hk2 (w.heap.size + 1 + 1) 0 (cl (m4f (sTimF a c)).get 4).toArray ?hk3 ?hk4 ?hk5 ?hk6 ?hk7 ?hk8); (case hk2 => rfl); (case hk1 => rfl); (case hk3 => rfl); (case hk4 => rfl); (case hk5 => exact (HR.out.thereC _)); (case hk6 => kernel_rfl); (case hk7 => exact (cl_one _ _))))
        refine bodyPost_ret (v := .tuple #[.agg (cl (m4f (sTimF a c)).get 4).toArray, .bool true]) ?_ rfl ?_
        · exact Eq.trans (results_cell_mid2 rfl _ _ (w.heap.size + 1 + 1) (cl (m4f (sTimF a c)).get 4) _ (by rfl) (World.rangeAt_setCells_same _ (w.heap.size + 1 + 1) 0 _ (HR.out.thereC _)) Tryd.underlying41 rfl (by kernel_rfl)) rfl
        · exact ⟨by rw [HG.out]; exact congrArg (fun c => Ending.returned (.tuple #[.agg c, .bool true])) (cl4 _), setCells_below _ _ _ HB.out (by omega)⟩
      · rw [he] at hsc
        have HG : Hid (mSca a c = (m4z, false)) := by show _ = _; rw [HEQ.out]; unfold m4l gt; rw [he]; rfl
        clear he
        have HO : Hid (BoxAt wr w2.heap.size (m4f (sTimF a c)).get 4) := fun k hk => by rw [m4f_get _ hk]; exact HZ.out.out k hk
        have HR := Lib.hid HZ.out.res
        have HB := Lib.hid HZ.out.below
        have hsz := HZ.out.size
        clear hT HX HY HZ
        go_wp2_with (first | ((with_reducible refine wpList_load_mid ?kl1 41 ?klx ?kl2 (w2.heap.size) 0 ?kl3 (cl (m4f (sTimF a c)).get 4) ?kld ?kl4 ?kl5 ?kl6 ?kl7 ?kl8); (case kl2 => rfl); (case kl1 => rfl); (case kl3 => rfl); (case kl4 => exact (HO.out.range)); (case kl5 => exact Tryd.underlying41); (case kl6 => rfl); (case kl7 => kernel_rfl)) | (go_at_call 110; (with_reducible refine (gotMat_cl_no (w.heap.size + 1 + 1 + 1) (m4f (sTimF a c)) _ (by omega) hsc).mono ?_); rintro e w4 ⟨rfl, hb⟩; have HR := Lib.hid (HR.out.below hb (by omega)); have HB := Lib.hid (show Below w.heap.size w w4 from HB.out.trans (hb.mono HB.out.size)); clear hb hsc) | ((with_reducible refine wpList_store_mid ?hl1 41 ?hlx ?hly ?hl2 (w.heap.size + 1 + 1) 0 (cl m4z.get 4).toArray ?hl3 ?hl4 ?hl5 ?hl6 ?hl7 ?hl8); (case hl2 => rfl); (case hl1 => rfl); (case hl3 => rfl); (case hl4 => rfl); (case hl5 => exact (HR.out.thereC _)); (case hl6 => kernel_rfl); (case hl7 => exact (cl_one _ _))))
        refine bodyPost_ret (v := .tuple #[.agg (cl m4z.get 4).toArray, .bool false]) ?_ rfl ?_
        · exact Eq.trans (results_cell_mid2 rfl _ _ (w.heap.size + 1 + 1) (cl m4z.get 4) _ (by rfl) (World.rangeAt_setCells_same _ (w.heap.size + 1 + 1) 0 _ (HR.out.thereC _)) Tryd.underlying41 rfl (by kernel_rfl)) rfl
        · exact ⟨by rw [HG.out]; exact congrArg (fun c => Ending.returned (.tuple #[.agg c, .bool false])) (cl4 _), setCells_below _ _ _ HB.out (by omega)⟩
end Go.Proofs.YtmcokdiopcpifaaDoor
