/- Contracts: loops of the reference over four numbers. -/
import Derived.Test.YtmcokdiopcpifaaDoorPjG12
set_option maxRecDepth 100000
namespace Go.Proofs.YtmcokdiopcpifaaDoor
open Go.RowKit Pol
/-- Where the reference's loop stands: k places are done, and none was none. -/
structure SRel (W : World) (A B R O : Nat) (ga gb : Nat → Fr) (nb : Nat) (f : Nat → Fr × Bool) (k : Nat) (wr : World) : Prop where
  le : k ≤ 4
  below : Below W.heap.size W wr
  size : O + 1 ≤ wr.heap.size
  one : BoxAt wr A ga 4
  two : BoxAt wr B gb nb
  res : Room wr R 4
  room : Room wr O 4
  out : BoxAt wr O (fun i => (f i).1) k
  good : ∀ j, j < k → (f j).2 = true
def SR (W : World) (A B R O : Nat) (ga gb : Nat → Fr) (nb : Nat) (f : Nat → Fr × Bool) (i : Value) (wr : World) : Prop := ∃ k : Nat, i = .int .i64 k ∧ SRel W A B R O ga gb nb f k wr
structure Ord2 (W : World) (A B R O : Nat) : Prop where
  hA : A < O
  hB : B < O
  hR : R < O
  wO : W.heap.size ≤ O
theorem SRel.below' {W wr w1 : World} {A B R O : Nat} {ga gb : Nat → Fr} {nb : Nat} {f : Nat → Fr × Bool} {k : Nat} (h : SRel W A B R O ga gb nb f k wr) (o : Ord2 W A B R O) (hb : Below wr.heap.size wr w1) : SRel W A B R O ga gb nb f k w1 := by
  have hz := h.size
  obtain ⟨a1, a2, a3, a4⟩ := o
  exact ⟨h.le, h.below.trans (hb.mono h.below.size), Nat.le_trans hz hb.size, h.one.below hb (by omega), h.two.below hb (by omega), h.res.below hb (by omega), h.room.below hb (by omega), h.out.below hb (by omega), h.good⟩
theorem SRel.put {W w1 : World} {A B R O : Nat} {ga gb : Nat → Fr} {nb : Nat} {f : Nat → Fr × Bool} {k : Nat} (h : SRel W A B R O ga gb nb f k w1) (o : Ord2 W A B R O) (hk : k < 4) (hok : (f k).2 = true) : SRel W A B R O ga gb nb f (k + 1) (putF w1 O k (f k).1) := by
  obtain ⟨a1, a2, a3, a4⟩ := o
  refine ⟨hk, ((h.below.setCell a4 _).setCell a4 _).setCell a4 _, by rw [putF_size]; exact h.size, h.one.put_other (by omega) k _, h.two.put_other (by omega) k _, h.res.put _ _ _, h.room.put _ _ _, h.out.put h.room hk, fun j hj => ?_⟩
  rcases Nat.lt_or_ge j k with h3 | h3
  · exact h.good j h3
  · obtain rfl : j = k := by omega
    exact hok
theorem SRel.alloc {W w1 : World} {A B R O : Nat} {ga gb : Nat → Fr} {nb : Nat} {f : Nat → Fr × Bool} {k : Nat} (h : SRel W A B R O ga gb nb f k w1) (o : Ord2 W A B R O) (x : Obj) : SRel W A B R O ga gb nb f k (w1.alloc x) := h.below' o ((Below.refl _ _).alloc (Nat.le_refl _) x)
theorem SRel.other {W w1 : World} {A B R O : Nat} {ga gb : Nat → Fr} {nb : Nat} {f : Nat → Fr × Bool} {k : Nat} (h : SRel W A B R O ga gb nb f k w1) (o : Ord2 W A B R O) {b : Nat} (hb : O < b) (j : Nat) (g : Fr) : SRel W A B R O ga gb nb f k (putF w1 b j g) := by
  obtain ⟨a1, a2, a3, a4⟩ := o
  exact ⟨h.le, ((h.below.setCell (by show _ ≤ b; omega) _).setCell (by show _ ≤ b; omega) _).setCell (by show _ ≤ b; omega) _, by rw [putF_size]; exact h.size, h.one.put_other (by omega) j _, h.two.put_other (by omega) j _, h.res.put _ _ _, h.room.put _ _ _, h.out.put_other (by omega) j _, h.good⟩
theorem SRel.drew {W wr : World} {A B R O : Nat} {ga gb : Nat → Fr} {nb : Nat} {f : Nat → Fr × Bool} {k : Nat} (h : SRel W A B R O ga gb nb f k wr) : SRel W A B R O ga gb nb f k wr.drew := ⟨h.le, h.below.drew, h.size, h.one, h.two, h.res, h.room, h.out, h.good⟩
set_option maxRecDepth 100000 in
set_option maxHeartbeats 40000000 in
theorem sadd4_any (a : M4) (b : M4) (w : World) :
    Calls Tryd.prog 127 #[.agg #[.int .i64 a.a.re, .int .i64 a.a.im, .int .i64 a.a.den, .int .i64 a.b.re, .int .i64 a.b.im, .int .i64 a.b.den, .int .i64 a.c.re, .int .i64 a.c.im, .int .i64 a.c.den, .int .i64 a.d.re, .int .i64 a.d.im, .int .i64 a.d.den], .agg #[.int .i64 b.a.re, .int .i64 b.a.im, .int .i64 b.a.den, .int .i64 b.b.re, .int .i64 b.b.im, .int .i64 b.b.den, .int .i64 b.c.re, .int .i64 b.c.im, .int .i64 b.c.den, .int .i64 b.d.re, .int .i64 b.d.im, .int .i64 b.d.den]] w (M4Out (sAdd a b) w) := by
  have HB : Hid (Below w.heap.size w (((w.alloc (.cells #[.int .i64 a.a.re, .int .i64 a.a.im, .int .i64 a.a.den, .int .i64 a.b.re, .int .i64 a.b.im, .int .i64 a.b.den, .int .i64 a.c.re, .int .i64 a.c.im, .int .i64 a.c.den, .int .i64 a.d.re, .int .i64 a.d.im, .int .i64 a.d.den] 51)).alloc (.cells #[.int .i64 b.a.re, .int .i64 b.a.im, .int .i64 b.a.den, .int .i64 b.b.re, .int .i64 b.b.im, .int .i64 b.b.den, .int .i64 b.c.re, .int .i64 b.c.im, .int .i64 b.c.den, .int .i64 b.d.re, .int .i64 b.d.im, .int .i64 b.d.den] 51)).alloc (.cells #[.int .i64 0, .int .i64 0, .int .i64 0, .int .i64 0, .int .i64 0, .int .i64 0, .int .i64 0, .int .i64 0, .int .i64 0, .int .i64 0, .int .i64 0, .int .i64 0] 51))) := by
    show Below _ _ _
    (repeat' first | exact Below.refl _ _ | apply bl_alloc | apply bl_drewN | apply bl_drew | refine bl_trans ?_ (by assumption) | refine bl_set ?_ (by first | omega | (simp <;> omega)) _)
  have HR : Hid (Room (((w.alloc (.cells #[.int .i64 a.a.re, .int .i64 a.a.im, .int .i64 a.a.den, .int .i64 a.b.re, .int .i64 a.b.im, .int .i64 a.b.den, .int .i64 a.c.re, .int .i64 a.c.im, .int .i64 a.c.den, .int .i64 a.d.re, .int .i64 a.d.im, .int .i64 a.d.den] 51)).alloc (.cells #[.int .i64 b.a.re, .int .i64 b.a.im, .int .i64 b.a.den, .int .i64 b.b.re, .int .i64 b.b.im, .int .i64 b.b.den, .int .i64 b.c.re, .int .i64 b.c.im, .int .i64 b.c.den, .int .i64 b.d.re, .int .i64 b.d.im, .int .i64 b.d.den] 51)).alloc (.cells #[.int .i64 0, .int .i64 0, .int .i64 0, .int .i64 0, .int .i64 0, .int .i64 0, .int .i64 0, .int .i64 0, .int .i64 0, .int .i64 0, .int .i64 0, .int .i64 0] 51)) (w.heap.size + 1 + 1) 4) := by
    show Room _ _ _
    exact Room.new' (by simp) rfl
  have HX : Hid (BoxAt (((w.alloc (.cells #[.int .i64 a.a.re, .int .i64 a.a.im, .int .i64 a.a.den, .int .i64 a.b.re, .int .i64 a.b.im, .int .i64 a.b.den, .int .i64 a.c.re, .int .i64 a.c.im, .int .i64 a.c.den, .int .i64 a.d.re, .int .i64 a.d.im, .int .i64 a.d.den] 51)).alloc (.cells #[.int .i64 b.a.re, .int .i64 b.a.im, .int .i64 b.a.den, .int .i64 b.b.re, .int .i64 b.b.im, .int .i64 b.b.den, .int .i64 b.c.re, .int .i64 b.c.im, .int .i64 b.c.den, .int .i64 b.d.re, .int .i64 b.d.im, .int .i64 b.d.den] 51)).alloc (.cells #[.int .i64 0, .int .i64 0, .int .i64 0, .int .i64 0, .int .i64 0, .int .i64 0, .int .i64 0, .int .i64 0, .int .i64 0, .int .i64 0, .int .i64 0, .int .i64 0] 51)) (w.heap.size) a.get 4) := by
    show BoxAt _ _ _ _
    exact ((BoxAt.new _ _ _ _ _ (src4 a)).alloc (by simp) _).alloc (by simp) _
  have HY : Hid (BoxAt (((w.alloc (.cells #[.int .i64 a.a.re, .int .i64 a.a.im, .int .i64 a.a.den, .int .i64 a.b.re, .int .i64 a.b.im, .int .i64 a.b.den, .int .i64 a.c.re, .int .i64 a.c.im, .int .i64 a.c.den, .int .i64 a.d.re, .int .i64 a.d.im, .int .i64 a.d.den] 51)).alloc (.cells #[.int .i64 b.a.re, .int .i64 b.a.im, .int .i64 b.a.den, .int .i64 b.b.re, .int .i64 b.b.im, .int .i64 b.b.den, .int .i64 b.c.re, .int .i64 b.c.im, .int .i64 b.c.den, .int .i64 b.d.re, .int .i64 b.d.im, .int .i64 b.d.den] 51)).alloc (.cells #[.int .i64 0, .int .i64 0, .int .i64 0, .int .i64 0, .int .i64 0, .int .i64 0, .int .i64 0, .int .i64 0, .int .i64 0, .int .i64 0, .int .i64 0, .int .i64 0] 51)) (w.heap.size + 1) b.get 4) := by
    show BoxAt _ _ _ _
    exact (BoxAt.new' (by simp) (src4 b)).alloc (by simp) _
  cases h1 : all4 realB a
  · have HG : Hid (sAdd a b = (m4z, false)) := by show _ = _; unfold sAdd; rw [h1]; exact m4l_e
    go_enter Tryd.func127, Tryd.ntmps127
    go_wp2_with fail
    refine (sstokesvalid_any a _).mono ?_
    rintro e w1 ⟨rfl, hb⟩
    have HR := Lib.hid (HR.out.below hb (by first | omega | (simp <;> omega)))
    have HX := Lib.hid (HX.out.below hb (by first | omega | (simp <;> omega)))
    have HY := Lib.hid (HY.out.below hb (by first | omega | (simp <;> omega)))
    have HB := Lib.hid (show Below w.heap.size w w1 from HB.out.trans (hb.mono HB.out.size))
    obtain ⟨hc, hf, hz⟩ := bcellk (B := w.heap.size + 1 + 1 + 1) hb (by first | omega | (simp <;> omega))
    clear hb
    go_wp2_with (first | ((with_reducible refine wpList_store_mid ?hzb1 51 ?hzbx ?hzby ?hzb2 (w.heap.size + 1 + 1) 0 (cl m4z.get 4).toArray ?hzb3 ?hzb4 ?hzb5 ?hzb6 ?hzb7 ?hzb8); (case hzb2 => rfl); (case hzb1 => rfl); (case hzb3 => rfl); (case hzb4 => rfl); (case hzb5 => exact (HR.out.thereC _)); (case hzb6 => kernel_rfl); (case hzb7 => exact (cl_one _ _))))
    refine bodyPost_ret (v := .tuple #[.agg (cl m4z.get 4).toArray, .bool false]) ?_ rfl ⟨by rw [HG.out]; exact congrArg (fun c => Ending.returned (.tuple #[.agg c, .bool false])) (cl4 m4z), ?_⟩
    · exact Eq.trans (results_cell_mid2 Tryd.results127 _ _ (w.heap.size + 1 + 1) (cl m4z.get 4) _ (by rfl) (by ((repeat' first | (with_reducible refine World.rangeAt_setCells_same _ (w.heap.size + 1 + 1) 0 (cl m4z.get 4) ?_) | (with_reducible refine World.rangeAt_alloc ?_ _) | (with_reducible refine (World.rangeAt_drew _ _ _ _).2 ?_)); exact HR.out.thereC _)) Tryd.underlying51 rfl (by kernel_rfl)) rfl
    · (repeat' first | (with_reducible exact HB.out) | with_reducible refine setCells_below _ _ _ ?_ (by first | omega | (simp <;> omega)) | with_reducible refine Below.setCell ?_ (by show _ ≤ _; first | omega | (simp <;> omega) | simp) _ | with_reducible refine Below.alloc ?_ (by first | omega | (simp <;> omega)) _ | with_reducible apply Below.drew)
  cases h2 : all4 realB b
  · have HG : Hid (sAdd a b = (m4z, false)) := by show _ = _; unfold sAdd; rw [h1, h2]; exact m4l_e
    go_enter Tryd.func127, Tryd.ntmps127
    go_wp2_with fail
    refine (sstokesvalid_any a _).mono ?_
    rintro e w1 ⟨rfl, hb⟩
    have HR := Lib.hid (HR.out.below hb (by first | omega | (simp <;> omega)))
    have HX := Lib.hid (HX.out.below hb (by first | omega | (simp <;> omega)))
    have HY := Lib.hid (HY.out.below hb (by first | omega | (simp <;> omega)))
    have HB := Lib.hid (show Below w.heap.size w w1 from HB.out.trans (hb.mono HB.out.size))
    obtain ⟨hc, hf, hz⟩ := bcellk (B := w.heap.size + 1 + 1 + 1) hb (by first | omega | (simp <;> omega))
    clear hb
    go_wp2_with fail
    refine (sstokesvalid_any b _).mono ?_
    rintro e w2 ⟨rfl, hb⟩
    have HR := Lib.hid (HR.out.below hb (by first | omega | (simp <;> omega)))
    have HX := Lib.hid (HX.out.below hb (by first | omega | (simp <;> omega)))
    have HY := Lib.hid (HY.out.below hb (by first | omega | (simp <;> omega)))
    have HB := Lib.hid (show Below w.heap.size w w2 from HB.out.trans (hb.mono HB.out.size))
    obtain ⟨hc, hf, hz⟩ := bcellk (B := w.heap.size + 1 + 1 + 1) hb (by first | omega | (simp <;> omega))
    clear hb
    go_wp2_with (first | ((with_reducible refine wpList_store_mid ?hzc1 51 ?hzcx ?hzcy ?hzc2 (w.heap.size + 1 + 1) 0 (cl m4z.get 4).toArray ?hzc3 ?hzc4 ?hzc5 ?hzc6 ?hzc7 ?hzc8); (case hzc2 => rfl); (case hzc1 => rfl); (case hzc3 => rfl); (case hzc4 => rfl); (case hzc5 => exact (HR.out.thereC _)); (case hzc6 => kernel_rfl); (case hzc7 => exact (cl_one _ _))))
    refine bodyPost_ret (v := .tuple #[.agg (cl m4z.get 4).toArray, .bool false]) ?_ rfl ⟨by rw [HG.out]; exact congrArg (fun c => Ending.returned (.tuple #[.agg c, .bool false])) (cl4 m4z), ?_⟩
    · exact Eq.trans (results_cell_mid2 Tryd.results127 _ _ (w.heap.size + 1 + 1) (cl m4z.get 4) _ (by rfl) (by ((repeat' first | (with_reducible refine World.rangeAt_setCells_same _ (w.heap.size + 1 + 1) 0 (cl m4z.get 4) ?_) | (with_reducible refine World.rangeAt_alloc ?_ _) | (with_reducible refine (World.rangeAt_drew _ _ _ _).2 ?_)); exact HR.out.thereC _)) Tryd.underlying51 rfl (by kernel_rfl)) rfl
    · (repeat' first | (with_reducible exact HB.out) | with_reducible refine setCells_below _ _ _ ?_ (by first | omega | (simp <;> omega)) | with_reducible refine Below.setCell ?_ (by show _ ≤ _; first | omega | (simp <;> omega) | simp) _ | with_reducible refine Below.alloc ?_ (by first | omega | (simp <;> omega)) _ | with_reducible apply Below.drew)
  · have HEQ : Hid (sAdd a b = m4l false (sAddF a b)) := by show _ = _; unfold sAdd; rw [h1, h2]; rfl
    go_enter Tryd.func127, Tryd.ntmps127
    go_wp2_with fail
    refine (sstokesvalid_any a _).mono ?_
    rintro e w1 ⟨rfl, hb⟩
    have HR := Lib.hid (HR.out.below hb (by first | omega | (simp <;> omega)))
    have HX := Lib.hid (HX.out.below hb (by first | omega | (simp <;> omega)))
    have HY := Lib.hid (HY.out.below hb (by first | omega | (simp <;> omega)))
    have HB := Lib.hid (show Below w.heap.size w w1 from HB.out.trans (hb.mono HB.out.size))
    obtain ⟨hc, hf, hz⟩ := bcellk (B := w.heap.size + 1 + 1 + 1) hb (by first | omega | (simp <;> omega))
    clear hb
    go_wp2_with fail
    refine (sstokesvalid_any b _).mono ?_
    rintro e w2 ⟨rfl, hb⟩
    have HR := Lib.hid (HR.out.below hb (by first | omega | (simp <;> omega)))
    have HX := Lib.hid (HX.out.below hb (by first | omega | (simp <;> omega)))
    have HY := Lib.hid (HY.out.below hb (by first | omega | (simp <;> omega)))
    have HB := Lib.hid (show Below w.heap.size w w2 from HB.out.trans (hb.mono HB.out.size))
    obtain ⟨hc, hf, hz⟩ := bcellk (B := w.heap.size + 1 + 1 + 1) hb (by first | omega | (simp <;> omega))
    clear hb
    have o : Ord2 w (w.heap.size) (w.heap.size + 1) (w.heap.size + 1 + 1) w2.heap.size := ⟨by omega, by omega, by omega, by omega⟩
    go_wp2
    clear hc hf hz
    go_loopw [7] (fun i wr => SR w (w.heap.size) (w.heap.size + 1) (w.heap.size + 1 + 1) w2.heap.size a.get b.get 4 (sAddF a b) i wr) (fun i _ => (4 - intOf i).toNat)
    case atStart =>
      obtain ⟨a1, a2, a3, a4⟩ := o
      exact ⟨0, rfl, by omega, (HB.out.alloc (by omega) _), by simp, HX.out.alloc (by omega) _, HY.out.alloc (by omega) _, HR.out.alloc (by omega) _, Room.new' rfl rfl, fun k hk => absurd hk (by omega), fun k hk => absurd hk (by omega)⟩
    case round =>
      obtain ⟨k, rfl, hT⟩ := hrel
      clear HR HX HY HB
      by_cases h4 : k < 4
      · obtain ⟨c0, c1, c2⟩ := hT.one k h4
        obtain ⟨d0, d1, d2⟩ := hT.two k h4
        have hz := hT.size
        have i0 : (0 : Int) ≤ (k : Int) := by omega
        have i1 : (k : Int) < 4 := by omega
        have HT := Lib.hid hT
        clear hT
        cases hok : (sAddF a b k).2
        · have HG : Hid (sAdd a b = (m4z, false)) := by show _ = _; rw [HEQ.out]; exact m4l_bad h4 hok
          unfold sAddF at hok
          have b0 : wr.drew.cell? ⟨w.heap.size, k * 3, none⟩ = some (.int .i64 (a.get k).re) := c0
          have p0 : ∀ z, (wr.alloc z).drew.cell? ⟨w.heap.size, k * 3, none⟩ = some (.int .i64 (a.get k).re) := fun z => (World.cell?_alloc_old _ _ _ (show w.heap.size ≠ wr.heap.size by have := o.hA; have := o.hB; omega)).trans c0
          have b1 : wr.drew.cell? ⟨w.heap.size, k * 3 + 1, none⟩ = some (.int .i64 (a.get k).im) := c1
          have p1 : ∀ z, (wr.alloc z).drew.cell? ⟨w.heap.size, k * 3 + 1, none⟩ = some (.int .i64 (a.get k).im) := fun z => (World.cell?_alloc_old _ _ _ (show w.heap.size ≠ wr.heap.size by have := o.hA; have := o.hB; omega)).trans c1
          have b2 : wr.drew.cell? ⟨w.heap.size, k * 3 + 2, none⟩ = some (.int .i64 (a.get k).den) := c2
          have p2 : ∀ z, (wr.alloc z).drew.cell? ⟨w.heap.size, k * 3 + 2, none⟩ = some (.int .i64 (a.get k).den) := fun z => (World.cell?_alloc_old _ _ _ (show w.heap.size ≠ wr.heap.size by have := o.hA; have := o.hB; omega)).trans c2
          have b3 : wr.drew.cell? ⟨w.heap.size + 1, k * 3, none⟩ = some (.int .i64 (b.get k).re) := d0
          have p3 : ∀ z, (wr.alloc z).drew.cell? ⟨w.heap.size + 1, k * 3, none⟩ = some (.int .i64 (b.get k).re) := fun z => (World.cell?_alloc_old _ _ _ (show w.heap.size + 1 ≠ wr.heap.size by have := o.hA; have := o.hB; omega)).trans d0
          have b4 : wr.drew.cell? ⟨w.heap.size + 1, k * 3 + 1, none⟩ = some (.int .i64 (b.get k).im) := d1
          have p4 : ∀ z, (wr.alloc z).drew.cell? ⟨w.heap.size + 1, k * 3 + 1, none⟩ = some (.int .i64 (b.get k).im) := fun z => (World.cell?_alloc_old _ _ _ (show w.heap.size + 1 ≠ wr.heap.size by have := o.hA; have := o.hB; omega)).trans d1
          have b5 : wr.drew.cell? ⟨w.heap.size + 1, k * 3 + 2, none⟩ = some (.int .i64 (b.get k).den) := d2
          have p5 : ∀ z, (wr.alloc z).drew.cell? ⟨w.heap.size + 1, k * 3 + 2, none⟩ = some (.int .i64 (b.get k).den) := fun z => (World.cell?_alloc_old _ _ _ (show w.heap.size + 1 ≠ wr.heap.size by have := o.hA; have := o.hB; omega)).trans d2
          clear c0 c1 c2 d0 d1 d2
          go_wp2
          go_region_held3 (fun w' => w'.cell? ⟨w.heap.size, k * 3, none⟩ = some (.int .i64 (a.get k).re) ∧ w'.cell? ⟨w.heap.size, k * 3 + 1, none⟩ = some (.int .i64 (a.get k).im) ∧ w'.cell? ⟨w.heap.size, k * 3 + 2, none⟩ = some (.int .i64 (a.get k).den) ∧ w'.cell? ⟨w.heap.size + 1, k * 3, none⟩ = some (.int .i64 (b.get k).re) ∧ w'.cell? ⟨w.heap.size + 1, k * 3 + 1, none⟩ = some (.int .i64 (b.get k).im) ∧ w'.cell? ⟨w.heap.size + 1, k * 3 + 2, none⟩ = some (.int .i64 (b.get k).den)) (((try dsimp only); (first | (with_reducible exact ⟨b0, b1, b2, b3, b4, b5⟩) | (with_reducible exact ⟨p0 _, p1 _, p2 _, p3 _, p4 _, p5 _⟩) | (with_reducible exact ⟨q0, q1, q2, q3, q4, q5⟩) | (with_reducible exact ⟨r0 _, r1 _, r2 _, r3 _, r4 _, r5 _⟩) | (with_reducible exact ⟨s0 _ _ _, s1 _ _ _, s2 _ _ _, s3 _ _ _, s4 _ _ _, s5 _ _ _⟩)))) (first | (go_at_call 75; (with_reducible refine (spadd_fr (a.get k) (b.get k) wr.drew).mono ?_); rintro e w5 ho; obtain ⟨rfl, hb⟩ := ho.fn; have HT := Lib.hid (HT.out.drew.below' o hb); have hz5 : wr.heap.size ≤ w5.heap.size := (by have := hb.size; simpa using this); have q0 : w5.cell? ⟨w.heap.size, k * 3, none⟩ = some (.int .i64 (a.get k).re) := (hb.cell (p := ⟨w.heap.size, k * 3, none⟩) (by show w.heap.size < _; have := o.hA; have := o.hB; first | omega | (simp <;> omega))).trans (b0); have r0 := fun z => (World.cell?_alloc_old _ z _ (show w.heap.size ≠ w5.heap.size by have := o.hA; have := o.hB; omega)).trans q0; have q1 : w5.cell? ⟨w.heap.size, k * 3 + 1, none⟩ = some (.int .i64 (a.get k).im) := (hb.cell (p := ⟨w.heap.size, k * 3 + 1, none⟩) (by show w.heap.size < _; have := o.hA; have := o.hB; first | omega | (simp <;> omega))).trans (b1); have r1 := fun z => (World.cell?_alloc_old _ z _ (show w.heap.size ≠ w5.heap.size by have := o.hA; have := o.hB; omega)).trans q1; have q2 : w5.cell? ⟨w.heap.size, k * 3 + 2, none⟩ = some (.int .i64 (a.get k).den) := (hb.cell (p := ⟨w.heap.size, k * 3 + 2, none⟩) (by show w.heap.size < _; have := o.hA; have := o.hB; first | omega | (simp <;> omega))).trans (b2); have r2 := fun z => (World.cell?_alloc_old _ z _ (show w.heap.size ≠ w5.heap.size by have := o.hA; have := o.hB; omega)).trans q2; have q3 : w5.cell? ⟨w.heap.size + 1, k * 3, none⟩ = some (.int .i64 (b.get k).re) := (hb.cell (p := ⟨w.heap.size + 1, k * 3, none⟩) (by show w.heap.size + 1 < _; have := o.hA; have := o.hB; first | omega | (simp <;> omega))).trans (b3); have r3 := fun z => (World.cell?_alloc_old _ z _ (show w.heap.size + 1 ≠ w5.heap.size by have := o.hA; have := o.hB; omega)).trans q3; have q4 : w5.cell? ⟨w.heap.size + 1, k * 3 + 1, none⟩ = some (.int .i64 (b.get k).im) := (hb.cell (p := ⟨w.heap.size + 1, k * 3 + 1, none⟩) (by show w.heap.size + 1 < _; have := o.hA; have := o.hB; first | omega | (simp <;> omega))).trans (b4); have r4 := fun z => (World.cell?_alloc_old _ z _ (show w.heap.size + 1 ≠ w5.heap.size by have := o.hA; have := o.hB; omega)).trans q4; have q5 : w5.cell? ⟨w.heap.size + 1, k * 3 + 2, none⟩ = some (.int .i64 (b.get k).den) := (hb.cell (p := ⟨w.heap.size + 1, k * 3 + 2, none⟩) (by show w.heap.size + 1 < _; have := o.hA; have := o.hB; first | omega | (simp <;> omega))).trans (b5); have r5 := fun z => (World.cell?_alloc_old _ z _ (show w.heap.size + 1 ≠ w5.heap.size by have := o.hA; have := o.hB; omega)).trans q5; clear ho hb) | (go_at_call 75; (with_reducible refine (spadd_fr (a.get k) (b.get k) (World.drew (wr.alloc _))).mono ?_); rintro e w5 ho; obtain ⟨rfl, hb⟩ := ho.fn; have HT := Lib.hid ((HT.out.alloc o _).drew.below' o hb); have hz5 : wr.heap.size + 1 ≤ w5.heap.size := (by have := hb.size; simpa using this); have q0 : w5.cell? ⟨w.heap.size, k * 3, none⟩ = some (.int .i64 (a.get k).re) := (hb.cell (p := ⟨w.heap.size, k * 3, none⟩) (by show w.heap.size < _; have := o.hA; have := o.hB; first | omega | (simp <;> omega))).trans (p0 _); have s0 := fun u v x => (far3 (i := 0) (j := 1) (k := 2) (u := u) (v := v) (x := x) (show wr.heap.size ≠ w.heap.size by have := o.hA; have := o.hB; omega)).trans q0; have q1 : w5.cell? ⟨w.heap.size, k * 3 + 1, none⟩ = some (.int .i64 (a.get k).im) := (hb.cell (p := ⟨w.heap.size, k * 3 + 1, none⟩) (by show w.heap.size < _; have := o.hA; have := o.hB; first | omega | (simp <;> omega))).trans (p1 _); have s1 := fun u v x => (far3 (i := 0) (j := 1) (k := 2) (u := u) (v := v) (x := x) (show wr.heap.size ≠ w.heap.size by have := o.hA; have := o.hB; omega)).trans q1; have q2 : w5.cell? ⟨w.heap.size, k * 3 + 2, none⟩ = some (.int .i64 (a.get k).den) := (hb.cell (p := ⟨w.heap.size, k * 3 + 2, none⟩) (by show w.heap.size < _; have := o.hA; have := o.hB; first | omega | (simp <;> omega))).trans (p2 _); have s2 := fun u v x => (far3 (i := 0) (j := 1) (k := 2) (u := u) (v := v) (x := x) (show wr.heap.size ≠ w.heap.size by have := o.hA; have := o.hB; omega)).trans q2; have q3 : w5.cell? ⟨w.heap.size + 1, k * 3, none⟩ = some (.int .i64 (b.get k).re) := (hb.cell (p := ⟨w.heap.size + 1, k * 3, none⟩) (by show w.heap.size + 1 < _; have := o.hA; have := o.hB; first | omega | (simp <;> omega))).trans (p3 _); have s3 := fun u v x => (far3 (i := 0) (j := 1) (k := 2) (u := u) (v := v) (x := x) (show wr.heap.size ≠ w.heap.size + 1 by have := o.hA; have := o.hB; omega)).trans q3; have q4 : w5.cell? ⟨w.heap.size + 1, k * 3 + 1, none⟩ = some (.int .i64 (b.get k).im) := (hb.cell (p := ⟨w.heap.size + 1, k * 3 + 1, none⟩) (by show w.heap.size + 1 < _; have := o.hA; have := o.hB; first | omega | (simp <;> omega))).trans (p4 _); have s4 := fun u v x => (far3 (i := 0) (j := 1) (k := 2) (u := u) (v := v) (x := x) (show wr.heap.size ≠ w.heap.size + 1 by have := o.hA; have := o.hB; omega)).trans q4; have q5 : w5.cell? ⟨w.heap.size + 1, k * 3 + 2, none⟩ = some (.int .i64 (b.get k).den) := (hb.cell (p := ⟨w.heap.size + 1, k * 3 + 2, none⟩) (by show w.heap.size + 1 < _; have := o.hA; have := o.hB; first | omega | (simp <;> omega))).trans (p5 _); have s5 := fun u v x => (far3 (i := 0) (j := 1) (k := 2) (u := u) (v := v) (x := x) (show wr.heap.size ≠ w.heap.size + 1 by have := o.hA; have := o.hB; omega)).trans q5; have hxB := fun q => hb.cell (p := ⟨wr.heap.size, q, none⟩) (by show wr.heap.size < _; simp); have hxF := fun q => hb.frozen (p := ⟨wr.heap.size, q, none⟩) (by show wr.heap.size < _; simp); clear ho hb))
          all_goals (have HB := Lib.hid HT.out.below)
          all_goals first | (have hw := hxB; clear hw; have HR := Lib.hid (HT.out.other o (b := wr.heap.size) (by omega) 0 (sAddF a b k).1).res; clear hxB hxF) | (have HR := Lib.hid (HT.out.alloc o (.cells #[.int .i64 (sAddF a b k).1.re, .int .i64 (sAddF a b k).1.im, .int .i64 (sAddF a b k).1.den] 23)).res)
          all_goals (obtain ⟨a1, a2, a3, a4⟩ := o)
          all_goals (clear b0 b1 b2 b3 b4 b5 p0 p1 p2 p3 p4 p5 q0 q1 q2 q3 q4 q5; first | clear r0 r1 r2 r3 r4 r5 | clear s0 s1 s2 s3 s4 s5)
          · go_wp2_with (first | ((with_reducible refine wpList_store_mid ?hze1 51 ?hzex ?hzey ?hze2 (w.heap.size + 1 + 1) 0 (cl m4z.get 4).toArray ?hze3 ?hze4 ?hze5 ?hze6 ?hze7 ?hze8); (case hze2 => rfl); (case hze1 => rfl); (case hze3 => rfl); (case hze4 => rfl); (case hze5 => exact (HR.out.thereC _)); (case hze6 => kernel_rfl); (case hze7 => exact (cl_one _ _))))
            refine bodyPost_ret (v := .tuple #[.agg (cl m4z.get 4).toArray, .bool false]) ?_ rfl ⟨by rw [HG.out]; exact congrArg (fun c => Ending.returned (.tuple #[.agg c, .bool false])) (cl4 m4z), ?_⟩
            · exact Eq.trans (results_cell_mid2 Tryd.results127 _ _ (w.heap.size + 1 + 1) (cl m4z.get 4) _ (by rfl) (by ((repeat' first | (with_reducible refine World.rangeAt_setCells_same _ (w.heap.size + 1 + 1) 0 (cl m4z.get 4) ?_) | (with_reducible refine World.rangeAt_alloc ?_ _) | (with_reducible refine (World.rangeAt_drew _ _ _ _).2 ?_)); exact HR.out.thereC _)) Tryd.underlying51 rfl (by kernel_rfl)) rfl
            · (repeat' first | (with_reducible exact HB.out) | with_reducible refine setCells_below _ _ _ ?_ (by first | omega | (simp <;> omega)) | with_reducible refine Below.setCell ?_ (by show _ ≤ _; first | omega | (simp <;> omega) | simp) _ | with_reducible refine Below.alloc ?_ (by first | omega | (simp <;> omega)) _ | with_reducible apply Below.drew)
          · go_wp2_with (first | ((with_reducible refine wpList_store_mid ?hzf1 51 ?hzfx ?hzfy ?hzf2 (w.heap.size + 1 + 1) 0 (cl m4z.get 4).toArray ?hzf3 ?hzf4 ?hzf5 ?hzf6 ?hzf7 ?hzf8); (case hzf2 => rfl); (case hzf1 => rfl); (case hzf3 => rfl); (case hzf4 => rfl); (case hzf5 => exact (HR.out.thereC _)); (case hzf6 => kernel_rfl); (case hzf7 => exact (cl_one _ _))))
            refine bodyPost_ret (v := .tuple #[.agg (cl m4z.get 4).toArray, .bool false]) ?_ rfl ⟨by rw [HG.out]; exact congrArg (fun c => Ending.returned (.tuple #[.agg c, .bool false])) (cl4 m4z), ?_⟩
            · exact Eq.trans (results_cell_mid2 Tryd.results127 _ _ (w.heap.size + 1 + 1) (cl m4z.get 4) _ (by rfl) (by ((repeat' first | (with_reducible refine World.rangeAt_setCells_same _ (w.heap.size + 1 + 1) 0 (cl m4z.get 4) ?_) | (with_reducible refine World.rangeAt_alloc ?_ _) | (with_reducible refine (World.rangeAt_drew _ _ _ _).2 ?_)); exact HR.out.thereC _)) Tryd.underlying51 rfl (by kernel_rfl)) rfl
            · (repeat' first | (with_reducible exact HB.out) | with_reducible refine setCells_below _ _ _ ?_ (by first | omega | (simp <;> omega)) | with_reducible refine Below.setCell ?_ (by show _ ≤ _; first | omega | (simp <;> omega) | simp) _ | with_reducible refine Below.alloc ?_ (by first | omega | (simp <;> omega)) _ | with_reducible apply Below.drew)
        · have HOK := Lib.hid hok
          unfold sAddF at hok
          have b0 : wr.drew.cell? ⟨w.heap.size, k * 3, none⟩ = some (.int .i64 (a.get k).re) := c0
          have p0 : ∀ z, (wr.alloc z).drew.cell? ⟨w.heap.size, k * 3, none⟩ = some (.int .i64 (a.get k).re) := fun z => (World.cell?_alloc_old _ _ _ (show w.heap.size ≠ wr.heap.size by have := o.hA; have := o.hB; omega)).trans c0
          have b1 : wr.drew.cell? ⟨w.heap.size, k * 3 + 1, none⟩ = some (.int .i64 (a.get k).im) := c1
          have p1 : ∀ z, (wr.alloc z).drew.cell? ⟨w.heap.size, k * 3 + 1, none⟩ = some (.int .i64 (a.get k).im) := fun z => (World.cell?_alloc_old _ _ _ (show w.heap.size ≠ wr.heap.size by have := o.hA; have := o.hB; omega)).trans c1
          have b2 : wr.drew.cell? ⟨w.heap.size, k * 3 + 2, none⟩ = some (.int .i64 (a.get k).den) := c2
          have p2 : ∀ z, (wr.alloc z).drew.cell? ⟨w.heap.size, k * 3 + 2, none⟩ = some (.int .i64 (a.get k).den) := fun z => (World.cell?_alloc_old _ _ _ (show w.heap.size ≠ wr.heap.size by have := o.hA; have := o.hB; omega)).trans c2
          have b3 : wr.drew.cell? ⟨w.heap.size + 1, k * 3, none⟩ = some (.int .i64 (b.get k).re) := d0
          have p3 : ∀ z, (wr.alloc z).drew.cell? ⟨w.heap.size + 1, k * 3, none⟩ = some (.int .i64 (b.get k).re) := fun z => (World.cell?_alloc_old _ _ _ (show w.heap.size + 1 ≠ wr.heap.size by have := o.hA; have := o.hB; omega)).trans d0
          have b4 : wr.drew.cell? ⟨w.heap.size + 1, k * 3 + 1, none⟩ = some (.int .i64 (b.get k).im) := d1
          have p4 : ∀ z, (wr.alloc z).drew.cell? ⟨w.heap.size + 1, k * 3 + 1, none⟩ = some (.int .i64 (b.get k).im) := fun z => (World.cell?_alloc_old _ _ _ (show w.heap.size + 1 ≠ wr.heap.size by have := o.hA; have := o.hB; omega)).trans d1
          have b5 : wr.drew.cell? ⟨w.heap.size + 1, k * 3 + 2, none⟩ = some (.int .i64 (b.get k).den) := d2
          have p5 : ∀ z, (wr.alloc z).drew.cell? ⟨w.heap.size + 1, k * 3 + 2, none⟩ = some (.int .i64 (b.get k).den) := fun z => (World.cell?_alloc_old _ _ _ (show w.heap.size + 1 ≠ wr.heap.size by have := o.hA; have := o.hB; omega)).trans d2
          clear c0 c1 c2 d0 d1 d2
          go_wp2
          go_region_held3 (fun w' => w'.cell? ⟨w.heap.size, k * 3, none⟩ = some (.int .i64 (a.get k).re) ∧ w'.cell? ⟨w.heap.size, k * 3 + 1, none⟩ = some (.int .i64 (a.get k).im) ∧ w'.cell? ⟨w.heap.size, k * 3 + 2, none⟩ = some (.int .i64 (a.get k).den) ∧ w'.cell? ⟨w.heap.size + 1, k * 3, none⟩ = some (.int .i64 (b.get k).re) ∧ w'.cell? ⟨w.heap.size + 1, k * 3 + 1, none⟩ = some (.int .i64 (b.get k).im) ∧ w'.cell? ⟨w.heap.size + 1, k * 3 + 2, none⟩ = some (.int .i64 (b.get k).den)) (((try dsimp only); (first | (with_reducible exact ⟨b0, b1, b2, b3, b4, b5⟩) | (with_reducible exact ⟨p0 _, p1 _, p2 _, p3 _, p4 _, p5 _⟩) | (with_reducible exact ⟨q0, q1, q2, q3, q4, q5⟩) | (with_reducible exact ⟨r0 _, r1 _, r2 _, r3 _, r4 _, r5 _⟩) | (with_reducible exact ⟨s0 _ _ _, s1 _ _ _, s2 _ _ _, s3 _ _ _, s4 _ _ _, s5 _ _ _⟩)))) (first | (go_at_call 75; (with_reducible refine (spadd_fr (a.get k) (b.get k) wr.drew).mono ?_); rintro e w5 ho; obtain ⟨rfl, hb⟩ := ho.fn; have HT := Lib.hid (HT.out.drew.below' o hb); have hz5 : wr.heap.size ≤ w5.heap.size := (by have := hb.size; simpa using this); have q0 : w5.cell? ⟨w.heap.size, k * 3, none⟩ = some (.int .i64 (a.get k).re) := (hb.cell (p := ⟨w.heap.size, k * 3, none⟩) (by show w.heap.size < _; have := o.hA; have := o.hB; first | omega | (simp <;> omega))).trans (b0); have r0 := fun z => (World.cell?_alloc_old _ z _ (show w.heap.size ≠ w5.heap.size by have := o.hA; have := o.hB; omega)).trans q0; have q1 : w5.cell? ⟨w.heap.size, k * 3 + 1, none⟩ = some (.int .i64 (a.get k).im) := (hb.cell (p := ⟨w.heap.size, k * 3 + 1, none⟩) (by show w.heap.size < _; have := o.hA; have := o.hB; first | omega | (simp <;> omega))).trans (b1); have r1 := fun z => (World.cell?_alloc_old _ z _ (show w.heap.size ≠ w5.heap.size by have := o.hA; have := o.hB; omega)).trans q1; have q2 : w5.cell? ⟨w.heap.size, k * 3 + 2, none⟩ = some (.int .i64 (a.get k).den) := (hb.cell (p := ⟨w.heap.size, k * 3 + 2, none⟩) (by show w.heap.size < _; have := o.hA; have := o.hB; first | omega | (simp <;> omega))).trans (b2); have r2 := fun z => (World.cell?_alloc_old _ z _ (show w.heap.size ≠ w5.heap.size by have := o.hA; have := o.hB; omega)).trans q2; have q3 : w5.cell? ⟨w.heap.size + 1, k * 3, none⟩ = some (.int .i64 (b.get k).re) := (hb.cell (p := ⟨w.heap.size + 1, k * 3, none⟩) (by show w.heap.size + 1 < _; have := o.hA; have := o.hB; first | omega | (simp <;> omega))).trans (b3); have r3 := fun z => (World.cell?_alloc_old _ z _ (show w.heap.size + 1 ≠ w5.heap.size by have := o.hA; have := o.hB; omega)).trans q3; have q4 : w5.cell? ⟨w.heap.size + 1, k * 3 + 1, none⟩ = some (.int .i64 (b.get k).im) := (hb.cell (p := ⟨w.heap.size + 1, k * 3 + 1, none⟩) (by show w.heap.size + 1 < _; have := o.hA; have := o.hB; first | omega | (simp <;> omega))).trans (b4); have r4 := fun z => (World.cell?_alloc_old _ z _ (show w.heap.size + 1 ≠ w5.heap.size by have := o.hA; have := o.hB; omega)).trans q4; have q5 : w5.cell? ⟨w.heap.size + 1, k * 3 + 2, none⟩ = some (.int .i64 (b.get k).den) := (hb.cell (p := ⟨w.heap.size + 1, k * 3 + 2, none⟩) (by show w.heap.size + 1 < _; have := o.hA; have := o.hB; first | omega | (simp <;> omega))).trans (b5); have r5 := fun z => (World.cell?_alloc_old _ z _ (show w.heap.size + 1 ≠ w5.heap.size by have := o.hA; have := o.hB; omega)).trans q5; clear ho hb) | (go_at_call 75; (with_reducible refine (spadd_fr (a.get k) (b.get k) (World.drew (wr.alloc _))).mono ?_); rintro e w5 ho; obtain ⟨rfl, hb⟩ := ho.fn; have HT := Lib.hid ((HT.out.alloc o _).drew.below' o hb); have hz5 : wr.heap.size + 1 ≤ w5.heap.size := (by have := hb.size; simpa using this); have q0 : w5.cell? ⟨w.heap.size, k * 3, none⟩ = some (.int .i64 (a.get k).re) := (hb.cell (p := ⟨w.heap.size, k * 3, none⟩) (by show w.heap.size < _; have := o.hA; have := o.hB; first | omega | (simp <;> omega))).trans (p0 _); have s0 := fun u v x => (far3 (i := 0) (j := 1) (k := 2) (u := u) (v := v) (x := x) (show wr.heap.size ≠ w.heap.size by have := o.hA; have := o.hB; omega)).trans q0; have q1 : w5.cell? ⟨w.heap.size, k * 3 + 1, none⟩ = some (.int .i64 (a.get k).im) := (hb.cell (p := ⟨w.heap.size, k * 3 + 1, none⟩) (by show w.heap.size < _; have := o.hA; have := o.hB; first | omega | (simp <;> omega))).trans (p1 _); have s1 := fun u v x => (far3 (i := 0) (j := 1) (k := 2) (u := u) (v := v) (x := x) (show wr.heap.size ≠ w.heap.size by have := o.hA; have := o.hB; omega)).trans q1; have q2 : w5.cell? ⟨w.heap.size, k * 3 + 2, none⟩ = some (.int .i64 (a.get k).den) := (hb.cell (p := ⟨w.heap.size, k * 3 + 2, none⟩) (by show w.heap.size < _; have := o.hA; have := o.hB; first | omega | (simp <;> omega))).trans (p2 _); have s2 := fun u v x => (far3 (i := 0) (j := 1) (k := 2) (u := u) (v := v) (x := x) (show wr.heap.size ≠ w.heap.size by have := o.hA; have := o.hB; omega)).trans q2; have q3 : w5.cell? ⟨w.heap.size + 1, k * 3, none⟩ = some (.int .i64 (b.get k).re) := (hb.cell (p := ⟨w.heap.size + 1, k * 3, none⟩) (by show w.heap.size + 1 < _; have := o.hA; have := o.hB; first | omega | (simp <;> omega))).trans (p3 _); have s3 := fun u v x => (far3 (i := 0) (j := 1) (k := 2) (u := u) (v := v) (x := x) (show wr.heap.size ≠ w.heap.size + 1 by have := o.hA; have := o.hB; omega)).trans q3; have q4 : w5.cell? ⟨w.heap.size + 1, k * 3 + 1, none⟩ = some (.int .i64 (b.get k).im) := (hb.cell (p := ⟨w.heap.size + 1, k * 3 + 1, none⟩) (by show w.heap.size + 1 < _; have := o.hA; have := o.hB; first | omega | (simp <;> omega))).trans (p4 _); have s4 := fun u v x => (far3 (i := 0) (j := 1) (k := 2) (u := u) (v := v) (x := x) (show wr.heap.size ≠ w.heap.size + 1 by have := o.hA; have := o.hB; omega)).trans q4; have q5 : w5.cell? ⟨w.heap.size + 1, k * 3 + 2, none⟩ = some (.int .i64 (b.get k).den) := (hb.cell (p := ⟨w.heap.size + 1, k * 3 + 2, none⟩) (by show w.heap.size + 1 < _; have := o.hA; have := o.hB; first | omega | (simp <;> omega))).trans (p5 _); have s5 := fun u v x => (far3 (i := 0) (j := 1) (k := 2) (u := u) (v := v) (x := x) (show wr.heap.size ≠ w.heap.size + 1 by have := o.hA; have := o.hB; omega)).trans q5; have hxB := fun q => hb.cell (p := ⟨wr.heap.size, q, none⟩) (by show wr.heap.size < _; simp); have hxF := fun q => hb.frozen (p := ⟨wr.heap.size, q, none⟩) (by show wr.heap.size < _; simp); clear ho hb))
          all_goals first | (have hw := hxB; clear hw; have HU := Lib.hid (HT.out.other o (b := wr.heap.size) (by omega) 0 (sAddF a b k).1); have HS := Lib.hid (HU.out.put o h4 HOK.out)) | (have HS := Lib.hid ((HT.out.put o h4 HOK.out).alloc o (.cells #[.int .i64 (sAddF a b k).1.re, .int .i64 (sAddF a b k).1.im, .int .i64 (sAddF a b k).1.den] 23)))
          all_goals (have hR := HT.out.room)
          · obtain ⟨v0, e0⟩ := Option.isSome_iff_exists.1 (hR (k * 3) (by omega)).1
            obtain ⟨v1, e1⟩ := Option.isSome_iff_exists.1 (hR (k * 3 + 1) (by omega)).1
            obtain ⟨v2, e2⟩ := Option.isSome_iff_exists.1 (hR (k * 3 + 2) (by omega)).1
            have f0 := (hR (k * 3) (by omega)).2
            have f1 := (hR (k * 3 + 1) (by omega)).2
            have f2 := (hR (k * 3 + 2) (by omega)).2
            obtain ⟨a1, a2, a3, a4⟩ := o
            have kx : ¬ w2.heap.size = w5.heap.size := by omega
            have ky : w2.heap.size < w5.heap.size := by omega
            have kz : ¬ w2.heap.size = wr.heap.size := by omega
            have kw : ¬ wr.heap.size = w2.heap.size := by omega
            clear hR HT
            clear b0 b1 b2 b3 b4 b5 p0 p1 p2 p3 p4 p5 q0 q1 q2 q3 q4 q5
            first | clear r0 r1 r2 r3 r4 r5 | clear s0 s1 s2 s3 s4 s5
            go_wp2
            go_roundw
            case rel => exact ⟨k + 1, by go_num, HS.out⟩
            case measure => simp [intOf]; omega
          · obtain ⟨v0, e0⟩ := Option.isSome_iff_exists.1 (hR (k * 3) (by omega)).1
            obtain ⟨v1, e1⟩ := Option.isSome_iff_exists.1 (hR (k * 3 + 1) (by omega)).1
            obtain ⟨v2, e2⟩ := Option.isSome_iff_exists.1 (hR (k * 3 + 2) (by omega)).1
            have f0 := (hR (k * 3) (by omega)).2
            have f1 := (hR (k * 3 + 1) (by omega)).2
            have f2 := (hR (k * 3 + 2) (by omega)).2
            obtain ⟨a1, a2, a3, a4⟩ := o
            have kx : ¬ w2.heap.size = w5.heap.size := by omega
            have ky : w2.heap.size < w5.heap.size := by omega
            have kz : ¬ w2.heap.size = wr.heap.size := by omega
            have kw : ¬ wr.heap.size = w2.heap.size := by omega
            clear hR HT
            clear b0 b1 b2 b3 b4 b5 p0 p1 p2 p3 p4 p5 q0 q1 q2 q3 q4 q5
            first | clear r0 r1 r2 r3 r4 r5 | clear s0 s1 s2 s3 s4 s5
            go_wp2
            go_roundw
            case rel => exact ⟨k + 1, by go_num, HS.out⟩
            case measure => simp [intOf]; omega
      · obtain rfl : k = 4 := by have := hT.le; omega
        have hz := hT.size
        obtain ⟨a1, a2, a3, a4⟩ := o
        have HG : Hid (sAdd a b = (m4f (sAddF a b), true)) := by show _ = _; rw [HEQ.out]; exact m4l_good hT.good
        have HO : Hid (BoxAt wr w2.heap.size (m4f (sAddF a b)).get 4) := fun k hk => by rw [m4f_get _ hk]; exact hT.out k hk
        have HR := Lib.hid hT.res
        have HB := Lib.hid hT.below
        clear hT
        go_wp2_with (first | ((with_reducible refine wpList_load_mid ?kq1 51 ?kqx ?kq2 (w2.heap.size) 0 ?kq3 (cl (m4f (sAddF a b)).get 4) ?kqd ?kq4 ?kq5 ?kq6 ?kq7 ?kq8); (case kq2 => rfl); (case kq1 => rfl); (case kq3 => rfl); (case kq4 => exact (HO.out.range)); (case kq5 => exact Tryd.underlying51); (case kq6 => rfl); (case kq7 => kernel_rfl)) | ((with_reducible refine wpList_store_mid ?hq1 51 ?hqx ?hqy ?hq2 (w.heap.size + 1 + 1) 0 (cl (m4f (sAddF a b)).get 4).toArray ?hq3 ?hq4 ?hq5 ?hq6 ?hq7 ?hq8); (case hq2 => rfl); (case hq1 => rfl); (case hq3 => rfl); (case hq4 => rfl); (case hq5 => exact (HR.out.thereC _)); (case hq6 => kernel_rfl); (case hq7 => exact (cl_one _ _))))
        refine bodyPost_ret (v := .tuple #[.agg (cl (m4f (sAddF a b)).get 4).toArray, .bool true]) ?_ rfl ⟨by rw [HG.out]; exact congrArg (fun c => Ending.returned (.tuple #[.agg c, .bool true])) (cl4 _), ?_⟩
        · exact Eq.trans (results_cell_mid2 Tryd.results127 _ _ (w.heap.size + 1 + 1) (cl (m4f (sAddF a b)).get 4) _ (by rfl) (by ((repeat' first | (with_reducible refine World.rangeAt_setCells_same _ (w.heap.size + 1 + 1) 0 (cl (m4f (sAddF a b)).get 4) ?_) | (with_reducible refine World.rangeAt_alloc ?_ _) | (with_reducible refine (World.rangeAt_drew _ _ _ _).2 ?_)); exact HR.out.thereC _)) Tryd.underlying51 rfl (by kernel_rfl)) rfl
        · (repeat' first | (with_reducible exact HB.out) | with_reducible refine setCells_below _ _ _ ?_ (by first | omega | (simp <;> omega)) | with_reducible refine Below.setCell ?_ (by show _ ≤ _; first | omega | (simp <;> omega) | simp) _ | with_reducible refine Below.alloc ?_ (by first | omega | (simp <;> omega)) _ | with_reducible apply Below.drew)
end Go.Proofs.YtmcokdiopcpifaaDoor
