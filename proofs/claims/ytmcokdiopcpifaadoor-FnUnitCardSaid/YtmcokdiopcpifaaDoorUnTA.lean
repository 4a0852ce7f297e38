/- Contract: a table upon four numbers, the program's side, where nothing on the way is none. -/
import Derived.Test.YtmcokdiopcpifaaDoorUnSG
import Derived.Test.YtmcokdiopcpifaaDoorUnG9
import Derived.Test.YtmcokdiopcpifaaDoorUnTB
import Derived.Deep.DeepCutAuto
set_option maxRecDepth 100000
namespace Go.Proofs.YtmcokdiopcpifaaDoor
open Go.RowKit Pol
/-- Where the loop over the rows stands: k rows are done. -/
structure TF (W : World) (A B R P O : Nat) (ga gb : Nat → Fr) (f : Nat → Fr) (k : Nat) (wr : World) : Prop where
  le : k ≤ 4
  below : Below W.heap.size W wr
  size : O + 1 ≤ wr.heap.size
  one : BoxAt wr A ga 16
  two : BoxAt wr B gb 4
  res : Room wr R 4
  room : Room wr O 4
  out : BoxAt wr O f k
  cell : wr.cell? ⟨P, 0, none⟩ = some (.bool false)
  free : wr.frozen? ⟨P, 0, none⟩ = false
/-- The same, with the row's own box. -/
structure TX (W : World) (A B R P O : Nat) (ga gb : Nat → Fr) (f : Nat → Fr) (k X : Nat) (x : Fr) (wr : World) : Prop where
  tf : TF W A B R P O ga gb f k wr
  lo : O + 1 ≤ X
  hi : X + 1 ≤ wr.heap.size
  room : Room wr X 1
  box : BoxAt wr X (fun _ => x) 1
section
variable {W wr w1 : World} {A B R P O : Nat} {ga gb f : Nat → Fr} {k : Nat}
theorem TF.next (h : TF W A B R P O ga gb f k wr) (o : Ord W A B R P O) (hb : Below wr.heap.size wr w1) : TF W A B R P O ga gb f k w1 := by
  have hz := h.size
  obtain ⟨a1, a2, a3, a4, a5, a6, a7, a8, a9⟩ := o
  exact ⟨h.le, h.below.trans (hb.mono h.below.size), Nat.le_trans hz hb.size, h.one.below hb (by omega), h.two.below hb (by omega), h.res.below hb (by omega), h.room.below hb (by omega), h.out.below hb (by omega), (hb.cell (p := ⟨P, 0, none⟩) (by show P < _; omega)).trans h.cell, (hb.frozen (p := ⟨P, 0, none⟩) (by show P < _; omega)).trans h.free⟩
theorem TF.alloc (h : TF W A B R P O ga gb f k wr) (o : Ord W A B R P O) (b : Obj) : TF W A B R P O ga gb f k (wr.alloc b) := h.next o ((Below.refl _ _).alloc (Nat.le_refl _) b)
theorem TF.drew (h : TF W A B R P O ga gb f k wr) : TF W A B R P O ga gb f k wr.drew := ⟨h.le, h.below.drew, h.size, h.one, h.two, h.res, h.room, h.out, h.cell, h.free⟩
theorem TF.sm (h : TF W A B R P O ga gb f k wr) (o : Ord W A B R P O) (hs : Sm P false wr w1) : TF W A B R P O ga gb f k w1 := by
  have hz := h.size
  obtain ⟨a1, a2, a3, a4, a5, a6, a7, a8, a9⟩ := o
  exact ⟨h.le, hs.own h.below a5, Nat.le_trans hz hs.size, h.one.sm hs (by omega) (by omega), h.two.sm hs (by omega) (by omega), h.res.sm hs (by omega) (by omega), h.room.sm hs (by omega) (by omega), h.out.sm hs (by omega) (by omega), hs.cell, hs.free⟩
theorem TF.far (h : TF W A B R P O ga gb f k wr) (o : Ord W A B R P O) {D : Nat} (hD : O + 1 ≤ D) (j : Nat) (x : Value) : TF W A B R P O ga gb f k (wr.setCell ⟨D, j, none⟩ x) := by
  obtain ⟨a1, a2, a3, a4, a5, a6, a7, a8, a9⟩ := o
  exact ⟨h.le, h.below.setCell (by show _ ≤ D; omega) _, by rw [World.size_setCell]; exact h.size, h.one.far (by omega), h.two.far (by omega), h.res.set _ _, h.room.set _ _, h.out.far (by omega), (World.cell?_setCell_far _ _ _ _ (by show D ≠ P; omega)).trans h.cell, by rw [World.frozen?_setCell]; exact h.free⟩
theorem TF.put (h : TF W A B R P O ga gb f k wr) (o : Ord W A B R P O) (hk : k < 4) : TF W A B R P O ga gb f (k + 1) (putF wr O k (f k)) := by
  obtain ⟨a1, a2, a3, a4, a5, a6, a7, a8, a9⟩ := o
  refine ⟨hk, ((h.below.setCell a6 _).setCell a6 _).setCell a6 _, by rw [putF_size]; exact h.size, h.one.put_other (by omega) k _, h.two.put_other (by omega) k _, h.res.put _ _ _, h.room.put _ _ _, h.out.put h.room hk, ?_, ?_⟩
  · have : ∀ (a : World) (j : Nat) (v : Value), (a.setCell ⟨O, j, none⟩ v).cell? ⟨P, 0, none⟩ = a.cell? ⟨P, 0, none⟩ := fun a j v => World.cell?_setCell_far _ _ _ _ (by show O ≠ P; omega)
    show (putF wr O k (f k)).cell? _ = _
    unfold putF; rw [this, this, this]; exact h.cell
  · show (putF wr O k (f k)).frozen? _ = _
    unfold putF; rw [World.frozen?_setCell, World.frozen?_setCell, World.frozen?_setCell]; exact h.free
variable {X : Nat} {x : Fr}
theorem TX.drew (h : TX W A B R P O ga gb f k X x wr) : TX W A B R P O ga gb f k X x wr.drew := ⟨h.tf.drew, h.lo, h.hi, h.room, h.box⟩
theorem TX.sm (h : TX W A B R P O ga gb f k X x wr) (o : Ord W A B R P O) (hs : Sm P false wr w1) : TX W A B R P O ga gb f k X x w1 :=
  have h1 := h.lo
  have h2 := h.hi
  have h3 := o.hP
  ⟨h.tf.sm o hs, h.lo, Nat.le_trans h.hi hs.size, h.room.sm hs (by omega) (by omega), h.box.sm hs (by omega) (by omega)⟩
theorem TX.put (h : TX W A B R P O ga gb f k X x wr) (o : Ord W A B R P O) (y : Fr) : TX W A B R P O ga gb f k X y (((wr.setCell ⟨X, 0, none⟩ (.int .i64 y.re)).setCell ⟨X, 1, none⟩ (.int .i64 y.im)).setCell ⟨X, 2, none⟩ (.int .i64 y.den)) :=
  ⟨((h.tf.far o h.lo 0 _).far o h.lo 1 _).far o h.lo 2 _, h.lo, by simp; exact h.hi, h.room.put X 0 y, box1 h.room⟩
end
theorem cl16A (m : M16) : (cl m.get 16).toArray = #[.int .i64 m.a.a.re, .int .i64 m.a.a.im, .int .i64 m.a.a.den, .int .i64 m.a.b.re, .int .i64 m.a.b.im, .int .i64 m.a.b.den, .int .i64 m.a.c.re, .int .i64 m.a.c.im, .int .i64 m.a.c.den, .int .i64 m.a.d.re, .int .i64 m.a.d.im, .int .i64 m.a.d.den, .int .i64 m.b.a.re, .int .i64 m.b.a.im, .int .i64 m.b.a.den, .int .i64 m.b.b.re, .int .i64 m.b.b.im, .int .i64 m.b.b.den, .int .i64 m.b.c.re, .int .i64 m.b.c.im, .int .i64 m.b.c.den, .int .i64 m.b.d.re, .int .i64 m.b.d.im, .int .i64 m.b.d.den, .int .i64 m.c.a.re, .int .i64 m.c.a.im, .int .i64 m.c.a.den, .int .i64 m.c.b.re, .int .i64 m.c.b.im, .int .i64 m.c.b.den, .int .i64 m.c.c.re, .int .i64 m.c.c.im, .int .i64 m.c.c.den, .int .i64 m.c.d.re, .int .i64 m.c.d.im, .int .i64 m.c.d.den, .int .i64 m.d.a.re, .int .i64 m.d.a.im, .int .i64 m.d.a.den, .int .i64 m.d.b.re, .int .i64 m.d.b.im, .int .i64 m.d.b.den, .int .i64 m.d.c.re, .int .i64 m.d.c.im, .int .i64 m.d.c.den, .int .i64 m.d.d.re, .int .i64 m.d.d.im, .int .i64 m.d.d.den] := by kernel_rfl
theorem itv_cl (m : M16) (w : World) : Calls Tryd.prog 48 #[.agg (cl m.get 16).toArray] w fun e w' => e = .returned (.bool (all16 realB m)) ∧ Below w.heap.size w w' := by
  rw [cl16A m]; exact itablevalid_any m w
set_option maxRecDepth 100000 in
set_option maxHeartbeats 80000000 in
theorem itapp_good (t : M16) (v m : M4) (Ac Pd : Nat → Nat → Fr) (w : World) (ht : all16 realB t = true) (hv : all4 realB v = true) (h0 : ∀ r, r < 4 → fTimes (t.get (4 * r)) (v.get 0) = (Ac r 1, true)) (hp : ∀ r k, r < 4 → 1 ≤ k → k < 4 → fTimes (t.get (4 * r + k)) (v.get k) = (Pd r k, true)) (ha : ∀ r k, r < 4 → 1 ≤ k → k < 4 → fAdd (Ac r k) (Pd r k) = (Ac r (k + 1), true)) (hm : ∀ j, j < 4 → m.get j = Ac j 4) :
    Calls Tryd.prog 46 #[.agg (cl t.get 16).toArray, .agg #[.int .i64 v.a.re, .int .i64 v.a.im, .int .i64 v.a.den, .int .i64 v.b.re, .int .i64 v.b.im, .int .i64 v.b.den, .int .i64 v.c.re, .int .i64 v.c.im, .int .i64 v.c.den, .int .i64 v.d.re, .int .i64 v.d.im, .int .i64 v.d.den]] w fun e w' => e = .returned (.tuple #[.agg (cl m.get 4).toArray, .bool true]) ∧ Below w.heap.size w w' := by
  have HX : Hid (BoxAt ((((w.alloc (.cells (cl t.get 16).toArray 26)).alloc (.cells #[.int .i64 v.a.re, .int .i64 v.a.im, .int .i64 v.a.den, .int .i64 v.b.re, .int .i64 v.b.im, .int .i64 v.b.den, .int .i64 v.c.re, .int .i64 v.c.im, .int .i64 v.c.den, .int .i64 v.d.re, .int .i64 v.d.im, .int .i64 v.d.den] 51)).alloc (.cells #[.int .i64 0, .int .i64 0, .int .i64 0, .int .i64 0, .int .i64 0, .int .i64 0, .int .i64 0, .int .i64 0, .int .i64 0, .int .i64 0, .int .i64 0, .int .i64 0] 51)).alloc (.cells #[.bool false] 102)) (w.heap.size) t.get 16) := by
    show BoxAt _ _ _ _
    exact (((BoxAt.new _ _ _ _ _ (fun k hk => by have := cl_at t.get hk; simpa using this)).alloc (by simp) _).alloc (by simp) _).alloc (by simp) _
  have HY : Hid (BoxAt ((((w.alloc (.cells (cl t.get 16).toArray 26)).alloc (.cells #[.int .i64 v.a.re, .int .i64 v.a.im, .int .i64 v.a.den, .int .i64 v.b.re, .int .i64 v.b.im, .int .i64 v.b.den, .int .i64 v.c.re, .int .i64 v.c.im, .int .i64 v.c.den, .int .i64 v.d.re, .int .i64 v.d.im, .int .i64 v.d.den] 51)).alloc (.cells #[.int .i64 0, .int .i64 0, .int .i64 0, .int .i64 0, .int .i64 0, .int .i64 0, .int .i64 0, .int .i64 0, .int .i64 0, .int .i64 0, .int .i64 0, .int .i64 0] 51)).alloc (.cells #[.bool false] 102)) (w.heap.size + 1) v.get 4) := by
    show BoxAt _ _ _ _
    exact ((BoxAt.new' (by simp) (src4 v)).alloc (by simp) _).alloc (by simp) _
  have HV : Hid (World.rangeAt ((((w.alloc (.cells (cl t.get 16).toArray 26)).alloc (.cells #[.int .i64 v.a.re, .int .i64 v.a.im, .int .i64 v.a.den, .int .i64 v.b.re, .int .i64 v.b.im, .int .i64 v.b.den, .int .i64 v.c.re, .int .i64 v.c.im, .int .i64 v.c.den, .int .i64 v.d.re, .int .i64 v.d.im, .int .i64 v.d.den] 51)).alloc (.cells #[.int .i64 0, .int .i64 0, .int .i64 0, .int .i64 0, .int .i64 0, .int .i64 0, .int .i64 0, .int .i64 0, .int .i64 0, .int .i64 0, .int .i64 0, .int .i64 0] 51)).alloc (.cells #[.bool false] 102)) (w.heap.size + 1) 0 [.int .i64 v.a.re, .int .i64 v.a.im, .int .i64 v.a.den, .int .i64 v.b.re, .int .i64 v.b.im, .int .i64 v.b.den, .int .i64 v.c.re, .int .i64 v.c.im, .int .i64 v.c.den, .int .i64 v.d.re, .int .i64 v.d.im, .int .i64 v.d.den]) := by
    show World.rangeAt _ _ _ _
    exact World.rangeAt_alloc (World.rangeAt_alloc (rangeAt_nw (by simp)) _) _
  have HR : Hid (Room ((((w.alloc (.cells (cl t.get 16).toArray 26)).alloc (.cells #[.int .i64 v.a.re, .int .i64 v.a.im, .int .i64 v.a.den, .int .i64 v.b.re, .int .i64 v.b.im, .int .i64 v.b.den, .int .i64 v.c.re, .int .i64 v.c.im, .int .i64 v.c.den, .int .i64 v.d.re, .int .i64 v.d.im, .int .i64 v.d.den] 51)).alloc (.cells #[.int .i64 0, .int .i64 0, .int .i64 0, .int .i64 0, .int .i64 0, .int .i64 0, .int .i64 0, .int .i64 0, .int .i64 0, .int .i64 0, .int .i64 0, .int .i64 0] 51)).alloc (.cells #[.bool false] 102)) (w.heap.size + 1 + 1) 4) := by
    show Room _ _ _
    exact (Room.new' (by simp) rfl).alloc (by simp) _
  have HB : Hid (Below w.heap.size w ((((w.alloc (.cells (cl t.get 16).toArray 26)).alloc (.cells #[.int .i64 v.a.re, .int .i64 v.a.im, .int .i64 v.a.den, .int .i64 v.b.re, .int .i64 v.b.im, .int .i64 v.b.den, .int .i64 v.c.re, .int .i64 v.c.im, .int .i64 v.c.den, .int .i64 v.d.re, .int .i64 v.d.im, .int .i64 v.d.den] 51)).alloc (.cells #[.int .i64 0, .int .i64 0, .int .i64 0, .int .i64 0, .int .i64 0, .int .i64 0, .int .i64 0, .int .i64 0, .int .i64 0, .int .i64 0, .int .i64 0, .int .i64 0] 51)).alloc (.cells #[.bool false] 102))) := by
    show Below _ _ _
    (repeat' first | exact Below.refl _ _ | apply bl_alloc | apply bl_drewN | apply bl_drew | refine bl_trans ?_ (by assumption) | refine bl_set ?_ (by first | omega | (simp <;> omega)) _)
  have hsc : ((((w.alloc (.cells (cl t.get 16).toArray 26)).alloc (.cells #[.int .i64 v.a.re, .int .i64 v.a.im, .int .i64 v.a.den, .int .i64 v.b.re, .int .i64 v.b.im, .int .i64 v.b.den, .int .i64 v.c.re, .int .i64 v.c.im, .int .i64 v.c.den, .int .i64 v.d.re, .int .i64 v.d.im, .int .i64 v.d.den] 51)).alloc (.cells #[.int .i64 0, .int .i64 0, .int .i64 0, .int .i64 0, .int .i64 0, .int .i64 0, .int .i64 0, .int .i64 0, .int .i64 0, .int .i64 0, .int .i64 0, .int .i64 0] 51)).alloc (.cells #[.bool false] 102)).cell? ⟨w.heap.size + 1 + 1 + 1, 0, none⟩ = some (.bool false) := by simp [go_sem]
  have hsf : ((((w.alloc (.cells (cl t.get 16).toArray 26)).alloc (.cells #[.int .i64 v.a.re, .int .i64 v.a.im, .int .i64 v.a.den, .int .i64 v.b.re, .int .i64 v.b.im, .int .i64 v.b.den, .int .i64 v.c.re, .int .i64 v.c.im, .int .i64 v.c.den, .int .i64 v.d.re, .int .i64 v.d.im, .int .i64 v.d.den] 51)).alloc (.cells #[.int .i64 0, .int .i64 0, .int .i64 0, .int .i64 0, .int .i64 0, .int .i64 0, .int .i64 0, .int .i64 0, .int .i64 0, .int .i64 0, .int .i64 0, .int .i64 0] 51)).alloc (.cells #[.bool false] 102)).frozen? ⟨w.heap.size + 1 + 1 + 1, 0, none⟩ = false := by simp [go_sem]
  go_enter Tryd.func46, Tryd.ntmps46
  go_wp2_with ((with_reducible refine wpList_load_mid ?kta1 26 ?ktax ?kta2 (w.heap.size) 0 ?kta3 (cl t.get 16) ?ktad ?kta4 ?kta5 ?kta6 ?kta7 ?kta8); (case kta2 => rfl); (case kta1 => rfl); (case kta3 => rfl); (case kta4 => (exact HX.out.range)); (case kta5 => exact Tryd.underlying26); (case kta6 => rfl); (case kta7 => kernel_rfl))
  refine (itv_cl t _).mono ?_
  rw [ht]
  rintro e w1 ⟨rfl, hb⟩
  have HX := Lib.hid (HX.out.below hb (by first | omega | (simp <;> omega)))
  have HY := Lib.hid (HY.out.below hb (by first | omega | (simp <;> omega)))
  have HR := Lib.hid (HR.out.below hb (by first | omega | (simp <;> omega)))
  have HV := Lib.hid (rangeAt_below HV.out hb (by first | omega | (simp <;> omega)))
  have HB := Lib.hid (show Below w.heap.size w w1 from HB.out.trans (hb.mono HB.out.size))
  have hsc := (hb.cell (p := ⟨w.heap.size + 1 + 1 + 1, 0, none⟩) (by first | (show _ < _; omega) | (simp <;> omega))).trans hsc
  have hsf := (hb.frozen (p := ⟨w.heap.size + 1 + 1 + 1, 0, none⟩) (by first | (show _ < _; omega) | (simp <;> omega))).trans hsf
  have hzw1 := hb.size
  (try simp at hzw1)
  clear hb
  have zv_0 : w1.cell? ⟨w.heap.size + 1, 0, none⟩ = some (.int .i64 v.a.re) := by have := HV.out 0 _ rfl; rwa [Nat.zero_add] at this
  have zv_1 : w1.cell? ⟨w.heap.size + 1, 1, none⟩ = some (.int .i64 v.a.im) := by have := HV.out 1 _ rfl; rwa [Nat.zero_add] at this
  have zv_2 : w1.cell? ⟨w.heap.size + 1, 2, none⟩ = some (.int .i64 v.a.den) := by have := HV.out 2 _ rfl; rwa [Nat.zero_add] at this
  have zv_3 : w1.cell? ⟨w.heap.size + 1, 3, none⟩ = some (.int .i64 v.b.re) := by have := HV.out 3 _ rfl; rwa [Nat.zero_add] at this
  have zv_4 : w1.cell? ⟨w.heap.size + 1, 4, none⟩ = some (.int .i64 v.b.im) := by have := HV.out 4 _ rfl; rwa [Nat.zero_add] at this
  have zv_5 : w1.cell? ⟨w.heap.size + 1, 5, none⟩ = some (.int .i64 v.b.den) := by have := HV.out 5 _ rfl; rwa [Nat.zero_add] at this
  have zv_6 : w1.cell? ⟨w.heap.size + 1, 6, none⟩ = some (.int .i64 v.c.re) := by have := HV.out 6 _ rfl; rwa [Nat.zero_add] at this
  have zv_7 : w1.cell? ⟨w.heap.size + 1, 7, none⟩ = some (.int .i64 v.c.im) := by have := HV.out 7 _ rfl; rwa [Nat.zero_add] at this
  have zv_8 : w1.cell? ⟨w.heap.size + 1, 8, none⟩ = some (.int .i64 v.c.den) := by have := HV.out 8 _ rfl; rwa [Nat.zero_add] at this
  have zv_9 : w1.cell? ⟨w.heap.size + 1, 9, none⟩ = some (.int .i64 v.d.re) := by have := HV.out 9 _ rfl; rwa [Nat.zero_add] at this
  have zv_10 : w1.cell? ⟨w.heap.size + 1, 10, none⟩ = some (.int .i64 v.d.im) := by have := HV.out 10 _ rfl; rwa [Nat.zero_add] at this
  have zv_11 : w1.cell? ⟨w.heap.size + 1, 11, none⟩ = some (.int .i64 v.d.den) := by have := HV.out 11 _ rfl; rwa [Nat.zero_add] at this
  go_wp2_with fail
  refine (istokesvalid_any v _).mono ?_
  rw [hv]
  rintro e w2 ⟨rfl, hb⟩
  have HX := Lib.hid (HX.out.below hb (by first | omega | (simp <;> omega)))
  have HY := Lib.hid (HY.out.below hb (by first | omega | (simp <;> omega)))
  have HR := Lib.hid (HR.out.below hb (by first | omega | (simp <;> omega)))
  have HV := Lib.hid (rangeAt_below HV.out hb (by first | omega | (simp <;> omega)))
  have HB := Lib.hid (show Below w.heap.size w w2 from HB.out.trans (hb.mono HB.out.size))
  have hsc := (hb.cell (p := ⟨w.heap.size + 1 + 1 + 1, 0, none⟩) (by first | (show _ < _; omega) | (simp <;> omega))).trans hsc
  have hsf := (hb.frozen (p := ⟨w.heap.size + 1 + 1 + 1, 0, none⟩) (by first | (show _ < _; omega) | (simp <;> omega))).trans hsf
  have hzw2 := hb.size
  (try simp at hzw2)
  clear hb
  clear zv_0 zv_1 zv_2 zv_3 zv_4 zv_5 zv_6 zv_7 zv_8 zv_9 zv_10 zv_11
  go_wp2_with fail
  refine (need_any (w.heap.size + 1 + 1 + 1) false true w2 (by omega) hsc hsf).mono ?_
  rintro e w3 ho
  obtain ⟨rfl, hs⟩ := ho.fn
  have hs : Sm (w.heap.size + 1 + 1 + 1) false w2 w3 := hs
  have HX := Lib.hid (HX.out.sm hs (by omega) (by omega))
  have HY := Lib.hid (HY.out.sm hs (by omega) (by omega))
  have HR := Lib.hid (HR.out.sm hs (by omega) (by omega))
  have HB := Lib.hid (show Below w.heap.size w w3 from hs.own HB.out (by omega))
  have hsc := hs.cell
  have hsf := hs.free
  have hz : w.heap.size + 1 + 1 + 1 + 1 ≤ w3.heap.size := Nat.le_trans (by omega) hs.size
  clear ho hs HV hzw1 hzw2
  have o : Ord w (w.heap.size) (w.heap.size + 1) (w.heap.size + 1 + 1) (w.heap.size + 1 + 1 + 1) w3.heap.size := ⟨by omega, by omega, by omega, by omega, by omega, by omega, by omega, by omega, by omega⟩
  go_wp2
  go_loopw [21] (fun i wr => ∃ r : Nat, i = .int .i64 r ∧ TF w (w.heap.size) (w.heap.size + 1) (w.heap.size + 1 + 1) (w.heap.size + 1 + 1 + 1) w3.heap.size t.get v.get (fun j => Ac j 4) r wr) (fun i _ => (4 - intOf i).toNat)
  case atStart =>
    exact ⟨0, rfl, by omega, (HB.out.alloc (by omega) _), by simp, HX.out.alloc (by omega) _, HY.out.alloc (by omega) _, HR.out.alloc (by omega) _, Room.new' rfl rfl, fun k hk => absurd hk (by omega), (World.cell?_alloc_old _ _ _ (by show w.heap.size + 1 + 1 + 1 ≠ w3.heap.size; omega)).trans hsc, by exact (World.frozen?_alloc_old _ _ _ (by show w.heap.size + 1 + 1 + 1 ≠ w3.heap.size; omega)).trans hsf⟩
  case round =>
    clear hsc hsf HX HY HR HB
    obtain ⟨r, rfl, hT⟩ := hrel
    by_cases h4 : r < 4
    · have hr : r = 0 ∨ r = 1 ∨ r = 2 ∨ r = 3 := by omega
      clear h4
      rcases hr with rfl | rfl | rfl | rfl
      · skip
        have e0 : fTimes (t.get 0) (v.get 0) = (Ac 0 1, true) := h0 0 (by omega)
        have W0 : IntKind.i64.wrap 0 = 0 := by decide
        go_upto_region 6 with fail
        go_cut [9] (fun s9 wx => ∃ X : Nat, s9 = .pointer (some ⟨X, 0, none⟩) ∧ TX w (w.heap.size) (w.heap.size + 1) (w.heap.size + 1 + 1) (w.heap.size + 1 + 1 + 1) w3.heap.size t.get v.get (fun j => Ac j 4) 0 X (Ac 0 1) wx)
        case first =>
          have K0 := Lib.hid hT.drew
          refine wp_region_held_drew (S := (fun w' => (w'.cell? ⟨w.heap.size, 0, none⟩ = some (.int .i64 (t.get 0).re) ∧ w'.cell? ⟨w.heap.size, 1, none⟩ = some (.int .i64 (t.get 0).im) ∧ w'.cell? ⟨w.heap.size, 2, none⟩ = some (.int .i64 (t.get 0).den)) ∧ (w'.cell? ⟨w.heap.size + 1, 0, none⟩ = some (.int .i64 (v.get 0).re) ∧ w'.cell? ⟨w.heap.size + 1, 1, none⟩ = some (.int .i64 (v.get 0).im) ∧ w'.cell? ⟨w.heap.size + 1, 2, none⟩ = some (.int .i64 (v.get 0).den)))) (by kernel_rfl) (show _ from ⟨⟨(K0.out.one 0 (by omega)).1, (K0.out.one 0 (by omega)).2.1, (K0.out.one 0 (by omega)).2.2⟩, ⟨(K0.out.two 0 (by omega)).1, (K0.out.two 0 (by omega)).2.1, (K0.out.two 0 (by omega)).2.2⟩⟩) (fun hHeld => ?_)
          refine wpAnyH_take (i := 0) (v := ?_) rfl (by kernel_rfl) (by kernel_rfl) (by kernel_rfl) (fun _ _ _ h => h) (Or.inl ⟨by rfl, ?_⟩) (by assumption) ?_
          rotate_left
          (focus (intro w hSw; (try dsimp only at hSw); go_simp; (try with_reducible rfl)))
          (try simp only [Act.put, List.getElem_toArray, List.getElem_cons_zero, List.setIfInBounds_toArray, List.set_cons_zero, List.set_cons_succ])
          refine wpAnyH_take (i := 1) (v := ?_) rfl (by kernel_rfl) (by kernel_rfl) (by kernel_rfl) (fun _ _ _ h => h) (Or.inl ⟨by rfl, ?_⟩) (by assumption) ?_
          rotate_left
          (focus (intro w hSw; (try dsimp only at hSw); go_simp; (try with_reducible rfl)))
          (try simp only [Act.put, List.getElem_toArray, List.getElem_cons_succ, List.getElem_cons_zero, List.setIfInBounds_toArray, List.set_cons_zero, List.set_cons_succ])
          refine wpAnyH_take (i := 2) (v := ?_) rfl (by kernel_rfl) (by kernel_rfl) (by kernel_rfl) (fun _ _ _ h => h) (Or.inl ⟨by rfl, ?_⟩) (by assumption) ?_
          rotate_left
          (focus (intro w hSw; (try dsimp only at hSw); go_simp; (try with_reducible rfl)))
          (try simp only [Act.put, List.getElem_toArray, List.getElem_cons_succ, List.getElem_cons_zero, List.setIfInBounds_toArray, List.set_cons_zero, List.set_cons_succ])
          refine wpAnyH_take (i := 3) (v := ?_) rfl (by kernel_rfl) (by kernel_rfl) (by kernel_rfl) (fun _ _ _ h => h) (Or.inl ⟨by rfl, ?_⟩) (by assumption) ?_
          rotate_left
          (focus (intro w hSw; (try dsimp only at hSw); go_simp; (try with_reducible rfl)))
          (try simp only [Act.put, List.getElem_toArray, List.getElem_cons_succ, List.getElem_cons_zero, List.setIfInBounds_toArray, List.set_cons_zero, List.set_cons_succ])
          refine wpAnyH_take (i := 4) (v := ?_) rfl (by kernel_rfl) (by kernel_rfl) (by kernel_rfl) (fun _ _ _ h => h) (Or.inl ⟨by rfl, ?_⟩) (by assumption) ?_
          rotate_left
          (focus (intro w hSw; (try dsimp only at hSw); go_simp; (try with_reducible rfl)))
          (try simp only [Act.put, List.getElem_toArray, List.getElem_cons_succ, List.getElem_cons_zero, List.setIfInBounds_toArray, List.set_cons_zero, List.set_cons_succ])
          refine wpAnyH_take (i := 5) (v := ?_) rfl (by kernel_rfl) (by kernel_rfl) (by kernel_rfl) (fun _ _ _ h => h) (Or.inl ⟨by rfl, ?_⟩) (by assumption) ?_
          rotate_left
          (focus (intro w hSw; (try dsimp only at hSw); go_simp; (try with_reducible rfl)))
          (try simp only [Act.put, List.getElem_toArray, List.getElem_cons_succ, List.getElem_cons_zero, List.setIfInBounds_toArray, List.set_cons_zero, List.set_cons_succ])
          refine wpAnyH_take (i := 6) (v := ?_) rfl (by kernel_rfl) (by kernel_rfl) (by kernel_rfl) (fun _ _ _ h => h) (Or.inl ⟨by rfl, ?_⟩) (by assumption) ?_
          rotate_left
          (focus (intro w hSw; (try dsimp only at hSw); go_simp; (try with_reducible rfl)))
          (try simp only [Act.put, List.getElem_toArray, List.getElem_cons_succ, List.getElem_cons_zero, List.setIfInBounds_toArray, List.set_cons_zero, List.set_cons_succ])
          refine wpAnyH_take (i := 7) (v := ?_) rfl (by kernel_rfl) (by kernel_rfl) (by kernel_rfl) (fun _ _ _ h => h) (Or.inl ⟨by rfl, ?_⟩) (by assumption) ?_
          rotate_left
          (focus (intro w hSw; (try dsimp only at hSw); go_simp; (try with_reducible rfl)))
          (try simp only [Act.put, List.getElem_toArray, List.getElem_cons_succ, List.getElem_cons_zero, List.setIfInBounds_toArray, List.set_cons_zero, List.set_cons_succ])
          refine wpAnyH_take (i := 8) (v := ?_) rfl (by kernel_rfl) (by kernel_rfl) (by kernel_rfl) (fun _ _ _ h => h) (Or.inl ⟨by rfl, ?_⟩) (by assumption) ?_
          rotate_left
          (focus (intro w hSw; (try dsimp only at hSw); go_simp; (try with_reducible rfl)))
          (try simp only [Act.put, List.getElem_toArray, List.getElem_cons_succ, List.getElem_cons_zero, List.setIfInBounds_toArray, List.set_cons_zero, List.set_cons_succ])
          refine wpAnyH_ready (rs := [9, 10]) (by kernel_rfl) (by simp) ?_
          refine AllReadyH.cons rfl (fun Kp hK => ?_) (AllReadyH.cons rfl (fun Kp hK => ?_) AllReadyH.nil)
          · skip
            go_simp
            go_at_call 80
            (with_reducible refine (stimes_any (w.heap.size + 1 + 1 + 1) false (t.get 0) (v.get 0) _ (by have := K0.out.size; have := o.hP; omega) K0.out.cell K0.out.free).mono ?_)
            rintro e w5 ho
            rw [e0] at ho
            obtain ⟨rfl, hs⟩ : e = .returned (.agg #[.int .i64 (Ac 0 1).re, .int .i64 (Ac 0 1).im, .int .i64 (Ac 0 1).den]) ∧ Sm (w.heap.size + 1 + 1 + 1) false _ _ := ho.fn
            have hzw5 := hs.size
            (try simp at hzw5)
            have K5 := Lib.hid (K0.out.sm o hs)
            clear ho hs
            refine hK.out _ _ (show _ from ⟨⟨(K5.out.one 0 (by omega)).1, (K5.out.one 0 (by omega)).2.1, (K5.out.one 0 (by omega)).2.2⟩, ⟨(K5.out.two 0 (by omega)).1, (K5.out.two 0 (by omega)).2.1, (K5.out.two 0 (by omega)).2.2⟩⟩) (fun hHeld => ?_)
            clear hK Kp
            (try simp only [Act.put, List.getElem_toArray, List.getElem_cons_succ, List.getElem_cons_zero, List.setIfInBounds_toArray, List.set_cons_zero, List.set_cons_succ])
            refine wpAnyH_ready (rs := [10]) (by kernel_rfl) (by simp) ?_
            refine AllReadyH.cons rfl (fun Kp hK => ?_) AllReadyH.nil
            go_simp
            refine hK.out _ _ (show _ from ⟨⟨((K5.out.alloc o _).one 0 (by omega)).1, ((K5.out.alloc o _).one 0 (by omega)).2.1, ((K5.out.alloc o _).one 0 (by omega)).2.2⟩, ⟨((K5.out.alloc o _).two 0 (by omega)).1, ((K5.out.alloc o _).two 0 (by omega)).2.1, ((K5.out.alloc o _).two 0 (by omega)).2.2⟩⟩) (fun hHeld => ?_)
            clear hK Kp
            (try simp only [Act.put, List.getElem_toArray, List.getElem_cons_succ, List.getElem_cons_zero, List.setIfInBounds_toArray, List.set_cons_zero, List.set_cons_succ])
            refine wpAnyH_ready (rs := [11]) (by kernel_rfl) (by simp) ?_
            refine AllReadyH.cons rfl (fun Kp hK => ?_) AllReadyH.nil
            go_simp
            refine hK.out _ _ (show _ from ⟨⟨((K5.out.alloc o _).one 0 (by omega)).1, ((K5.out.alloc o _).one 0 (by omega)).2.1, ((K5.out.alloc o _).one 0 (by omega)).2.2⟩, ⟨((K5.out.alloc o _).two 0 (by omega)).1, ((K5.out.alloc o _).two 0 (by omega)).2.1, ((K5.out.alloc o _).two 0 (by omega)).2.2⟩⟩) (fun hHeld => ?_)
            clear hK Kp
            (try simp only [Act.put, List.getElem_toArray, List.getElem_cons_succ, List.getElem_cons_zero, List.setIfInBounds_toArray, List.set_cons_zero, List.set_cons_succ])
            refine wpAnyH_done (by kernel_rfl) ?_ _
            clear hHeld
            go_wp2_with fail
            go_meet
            exact ⟨w5.heap.size, rfl, K5.out.alloc o _, K5.out.size, by simp, Room.new' rfl rfl, boxN rfl⟩
          · skip
            have KA := Lib.hid (hT.alloc o (.cells #[.int .i64 0, .int .i64 0, .int .i64 0] 23)).drew
            go_simp
            refine hK.out _ _ (show _ from ⟨⟨(KA.out.one 0 (by omega)).1, (KA.out.one 0 (by omega)).2.1, (KA.out.one 0 (by omega)).2.2⟩, ⟨(KA.out.two 0 (by omega)).1, (KA.out.two 0 (by omega)).2.1, (KA.out.two 0 (by omega)).2.2⟩⟩) (fun hHeld => ?_)
            clear hK Kp
            (try simp only [Act.put, List.getElem_toArray, List.getElem_cons_succ, List.getElem_cons_zero, List.setIfInBounds_toArray, List.set_cons_zero, List.set_cons_succ])
            refine wpAnyH_ready (rs := [9]) (by kernel_rfl) (by simp) ?_
            refine AllReadyH.cons rfl (fun Kp hK => ?_) AllReadyH.nil
            go_simp
            go_at_call 80
            (with_reducible refine (stimes_any (w.heap.size + 1 + 1 + 1) false (t.get 0) (v.get 0) _ (by have := KA.out.size; have := o.hP; omega) KA.out.cell KA.out.free).mono ?_)
            rintro e w5 ho
            rw [e0] at ho
            obtain ⟨rfl, hs⟩ : e = .returned (.agg #[.int .i64 (Ac 0 1).re, .int .i64 (Ac 0 1).im, .int .i64 (Ac 0 1).den]) ∧ Sm (w.heap.size + 1 + 1 + 1) false _ _ := ho.fn
            have hzw5 := hs.size
            (try simp at hzw5)
            have RD := Lib.hid ((show Room (World.drew (wr.alloc (.cells #[.int .i64 0, .int .i64 0, .int .i64 0] 23))) wr.heap.size 1 from Room.new' rfl rfl).sm hs (by show wr.heap.size < _; simp) (by have := hT.size; have := o.hP; omega))
            have K5 := Lib.hid (KA.out.sm o hs)
            clear ho hs
            refine hK.out _ _ (show _ from ⟨⟨(K5.out.one 0 (by omega)).1, (K5.out.one 0 (by omega)).2.1, (K5.out.one 0 (by omega)).2.2⟩, ⟨(K5.out.two 0 (by omega)).1, (K5.out.two 0 (by omega)).2.1, (K5.out.two 0 (by omega)).2.2⟩⟩) (fun hHeld => ?_)
            clear hK Kp
            (try simp only [Act.put, List.getElem_toArray, List.getElem_cons_succ, List.getElem_cons_zero, List.setIfInBounds_toArray, List.set_cons_zero, List.set_cons_succ])
            obtain ⟨y0, q0⟩ := Option.isSome_iff_exists.1 (RD.out 0 (by omega)).1
            have fq0 := (RD.out 0 (by omega)).2
            obtain ⟨y1, q1⟩ := Option.isSome_iff_exists.1 (RD.out 1 (by omega)).1
            have fq1 := (RD.out 1 (by omega)).2
            obtain ⟨y2, q2⟩ := Option.isSome_iff_exists.1 (RD.out 2 (by omega)).1
            have fq2 := (RD.out 2 (by omega)).2
            refine wpAnyH_ready (rs := [11]) (by kernel_rfl) (by simp) ?_
            refine AllReadyH.cons rfl (fun Kp hK => ?_) AllReadyH.nil
            go_simp
            refine hK.out _ _ (show _ from ⟨⟨((((K5.out.far o (D := wr.heap.size) hT.size 0 _).far o hT.size 1 _).far o hT.size 2 _).one 0 (by omega)).1, ((((K5.out.far o (D := wr.heap.size) hT.size 0 _).far o hT.size 1 _).far o hT.size 2 _).one 0 (by omega)).2.1, ((((K5.out.far o (D := wr.heap.size) hT.size 0 _).far o hT.size 1 _).far o hT.size 2 _).one 0 (by omega)).2.2⟩, ⟨((((K5.out.far o (D := wr.heap.size) hT.size 0 _).far o hT.size 1 _).far o hT.size 2 _).two 0 (by omega)).1, ((((K5.out.far o (D := wr.heap.size) hT.size 0 _).far o hT.size 1 _).far o hT.size 2 _).two 0 (by omega)).2.1, ((((K5.out.far o (D := wr.heap.size) hT.size 0 _).far o hT.size 1 _).far o hT.size 2 _).two 0 (by omega)).2.2⟩⟩) (fun hHeld => ?_)
            clear hK Kp
            (try simp only [Act.put, List.getElem_toArray, List.getElem_cons_succ, List.getElem_cons_zero, List.setIfInBounds_toArray, List.set_cons_zero, List.set_cons_succ])
            refine wpAnyH_done (by kernel_rfl) ?_ _
            clear hHeld
            go_wp2_with fail
            go_meet
            exact ⟨wr.heap.size, rfl, ((K5.out.far o (D := wr.heap.size) hT.size 0 _).far o hT.size 1 _).far o hT.size 2 _, hT.size, by simp; omega, RD.out.put wr.heap.size 0 _, box1 RD.out⟩
        case rest =>
        obtain ⟨X, rfl, hX⟩ := hcut
        clear hT e0
        obtain ⟨U, hU⟩ : ∃ U, U = wc := ⟨_, rfl⟩
        rw [← hU] at hX
        rw [← hU]
        clear hU
        have hX1 := hX.lo
        have hX2 := hX.hi
        go_wp2
        go_loopw [10] (fun i wy => ∃ k : Nat, i = .int .i64 k ∧ 1 ≤ k ∧ k ≤ 4 ∧ TX w (w.heap.size) (w.heap.size + 1) (w.heap.size + 1 + 1) (w.heap.size + 1 + 1 + 1) w3.heap.size t.get v.get (fun j => Ac j 4) 0 X (Ac 0 k) wy) (fun i _ => (4 - intOf i).toNat)
        case atStart => exact ⟨1, rfl, by omega, by omega, hX⟩
        case round =>
          clear hX hX2
          obtain ⟨k, rfl, hk1, hk4, hX⟩ := hrel
          have hX2 := hX.hi
          by_cases h5 : k < 4
          · have hk : k = 1 ∨ k = 2 ∨ k = 3 := by omega
            clear hk1 hk4 h5
            rcases hk with rfl | rfl | rfl
            · skip
              have e1 : fTimes (t.get 1) (v.get 1) = (Pd 0 1, true) := hp 0 1 (by omega) (by omega) (by omega)
              have e2 : fAdd (Ac 0 1) (Pd 0 1) = (Ac 0 2, true) := ha 0 1 (by omega) (by omega) (by omega)
              have W5 : IntKind.i64.wrap 1 = 1 := by decide
              go_upto_region 10 with fail
              have K0 := Lib.hid hX.drew
              obtain ⟨x0, x1, x2⟩ := (show BoxAt (World.drew _) X (fun _ => Ac 0 1) 1 from K0.out.box).f3
              refine wp_region_held_drew (S := (fun w' => (w'.cell? ⟨w.heap.size, 3, none⟩ = some (.int .i64 (t.get 1).re) ∧ w'.cell? ⟨w.heap.size, 4, none⟩ = some (.int .i64 (t.get 1).im) ∧ w'.cell? ⟨w.heap.size, 5, none⟩ = some (.int .i64 (t.get 1).den)) ∧ (w'.cell? ⟨w.heap.size + 1, 3, none⟩ = some (.int .i64 (v.get 1).re) ∧ w'.cell? ⟨w.heap.size + 1, 4, none⟩ = some (.int .i64 (v.get 1).im) ∧ w'.cell? ⟨w.heap.size + 1, 5, none⟩ = some (.int .i64 (v.get 1).den)))) (by kernel_rfl) (show _ from ⟨⟨(K0.out.tf.one 1 (by omega)).1, (K0.out.tf.one 1 (by omega)).2.1, (K0.out.tf.one 1 (by omega)).2.2⟩, ⟨(K0.out.tf.two 1 (by omega)).1, (K0.out.tf.two 1 (by omega)).2.1, (K0.out.tf.two 1 (by omega)).2.2⟩⟩) (fun hHeld => ?_)
              refine wpAnyH_take (i := 0) (v := ?_) rfl (by kernel_rfl) (by kernel_rfl) (by kernel_rfl) (fun _ _ _ h => h) (Or.inl ⟨by rfl, ?_⟩) (by assumption) ?_
              rotate_left
              (focus (intro w hSw; (try dsimp only at hSw); go_simp; (try with_reducible rfl)))
              (try simp only [Act.put, List.getElem_toArray, List.getElem_cons_zero, List.setIfInBounds_toArray, List.set_cons_zero, List.set_cons_succ])
              refine wpAnyH_take (i := 2) (v := ?_) rfl (by kernel_rfl) (by kernel_rfl) (by kernel_rfl) (fun _ _ _ h => h) (Or.inl ⟨by rfl, ?_⟩) (by assumption) ?_
              rotate_left
              (focus (intro w hSw; (try dsimp only at hSw); go_simp; (try with_reducible rfl)))
              (try simp only [Act.put, List.getElem_toArray, List.getElem_cons_succ, List.getElem_cons_zero, List.setIfInBounds_toArray, List.set_cons_zero, List.set_cons_succ])
              refine wpAnyH_take (i := 3) (v := ?_) rfl (by kernel_rfl) (by kernel_rfl) (by kernel_rfl) (fun _ _ _ h => h) (Or.inl ⟨by rfl, ?_⟩) (by assumption) ?_
              rotate_left
              (focus (intro w hSw; (try dsimp only at hSw); go_simp; (try with_reducible rfl)))
              (try simp only [Act.put, List.getElem_toArray, List.getElem_cons_succ, List.getElem_cons_zero, List.setIfInBounds_toArray, List.set_cons_zero, List.set_cons_succ])
              refine wpAnyH_take (i := 4) (v := ?_) rfl (by kernel_rfl) (by kernel_rfl) (by kernel_rfl) (fun _ _ _ h => h) (Or.inl ⟨by rfl, ?_⟩) (by assumption) ?_
              rotate_left
              (focus (intro w hSw; (try dsimp only at hSw); go_simp; (try with_reducible rfl)))
              (try simp only [Act.put, List.getElem_toArray, List.getElem_cons_succ, List.getElem_cons_zero, List.setIfInBounds_toArray, List.set_cons_zero, List.set_cons_succ])
              refine wpAnyH_take (i := 5) (v := ?_) rfl (by kernel_rfl) (by kernel_rfl) (by kernel_rfl) (fun _ _ _ h => h) (Or.inl ⟨by rfl, ?_⟩) (by assumption) ?_
              rotate_left
              (focus (intro w hSw; (try dsimp only at hSw); go_simp; (try with_reducible rfl)))
              (try simp only [Act.put, List.getElem_toArray, List.getElem_cons_succ, List.getElem_cons_zero, List.setIfInBounds_toArray, List.set_cons_zero, List.set_cons_succ])
              refine wpAnyH_take (i := 6) (v := ?_) rfl (by kernel_rfl) (by kernel_rfl) (by kernel_rfl) (fun _ _ _ h => h) (Or.inl ⟨by rfl, ?_⟩) (by assumption) ?_
              rotate_left
              (focus (intro w hSw; (try dsimp only at hSw); go_simp; (try with_reducible rfl)))
              (try simp only [Act.put, List.getElem_toArray, List.getElem_cons_succ, List.getElem_cons_zero, List.setIfInBounds_toArray, List.set_cons_zero, List.set_cons_succ])
              refine wpAnyH_take (i := 7) (v := ?_) rfl (by kernel_rfl) (by kernel_rfl) (by kernel_rfl) (fun _ _ _ h => h) (Or.inl ⟨by rfl, ?_⟩) (by assumption) ?_
              rotate_left
              (focus (intro w hSw; (try dsimp only at hSw); go_simp; (try with_reducible rfl)))
              (try simp only [Act.put, List.getElem_toArray, List.getElem_cons_succ, List.getElem_cons_zero, List.setIfInBounds_toArray, List.set_cons_zero, List.set_cons_succ])
              refine wpAnyH_take (i := 8) (v := ?_) rfl (by kernel_rfl) (by kernel_rfl) (by kernel_rfl) (fun _ _ _ h => h) (Or.inl ⟨by rfl, ?_⟩) (by assumption) ?_
              rotate_left
              (focus (intro w hSw; (try dsimp only at hSw); go_simp; (try with_reducible rfl)))
              (try simp only [Act.put, List.getElem_toArray, List.getElem_cons_succ, List.getElem_cons_zero, List.setIfInBounds_toArray, List.set_cons_zero, List.set_cons_succ])
              refine wpAnyH_take (i := 9) (v := ?_) rfl (by kernel_rfl) (by kernel_rfl) (by kernel_rfl) (fun _ _ _ h => h) (Or.inl ⟨by rfl, ?_⟩) (by assumption) ?_
              rotate_left
              (focus (intro w hSw; (try dsimp only at hSw); go_simp; (try with_reducible rfl)))
              (try simp only [Act.put, List.getElem_toArray, List.getElem_cons_succ, List.getElem_cons_zero, List.setIfInBounds_toArray, List.set_cons_zero, List.set_cons_succ])
              refine wpAnyH_take (i := 10) (v := ?_) rfl (by kernel_rfl) (by kernel_rfl) (by kernel_rfl) (fun _ _ _ h => h) (Or.inl ⟨by rfl, ?_⟩) (by assumption) ?_
              rotate_left
              (focus (intro w hSw; (try dsimp only at hSw); go_simp; (try with_reducible rfl)))
              (try simp only [Act.put, List.getElem_toArray, List.getElem_cons_succ, List.getElem_cons_zero, List.setIfInBounds_toArray, List.set_cons_zero, List.set_cons_succ])
              refine wpAnyH_take (i := 11) (v := ?_) rfl (by kernel_rfl) (by kernel_rfl) (by kernel_rfl) (fun _ _ _ h => h) (Or.inl ⟨by rfl, ?_⟩) (by assumption) ?_
              rotate_left
              (focus (intro w hSw; (try dsimp only at hSw); go_simp; (try with_reducible rfl)))
              (try simp only [Act.put, List.getElem_toArray, List.getElem_cons_succ, List.getElem_cons_zero, List.setIfInBounds_toArray, List.set_cons_zero, List.set_cons_succ])
              refine wpAnyH_take (i := 12) (v := ?_) rfl (by kernel_rfl) (by kernel_rfl) (by kernel_rfl) (fun _ _ _ h => h) (Or.inl ⟨by rfl, ?_⟩) (by assumption) ?_
              rotate_left
              (focus (intro w hSw; (try dsimp only at hSw); go_simp; (try with_reducible rfl)))
              (try simp only [Act.put, List.getElem_toArray, List.getElem_cons_succ, List.getElem_cons_zero, List.setIfInBounds_toArray, List.set_cons_zero, List.set_cons_succ])
              refine wpAnyH_take (i := 13) (v := ?_) rfl (by kernel_rfl) (by kernel_rfl) (by kernel_rfl) (fun _ _ _ h => h) (Or.inl ⟨by rfl, ?_⟩) (by assumption) ?_
              rotate_left
              (focus (intro w hSw; (try dsimp only at hSw); go_simp; (try with_reducible rfl)))
              (try simp only [Act.put, List.getElem_toArray, List.getElem_cons_succ, List.getElem_cons_zero, List.setIfInBounds_toArray, List.set_cons_zero, List.set_cons_succ])
              refine wpAnyH_ready (rs := [1, 14]) (by kernel_rfl) (by simp) ?_
              refine AllReadyH.cons rfl (fun Kp hK => ?_) (AllReadyH.cons rfl (fun Kp hK => ?_) AllReadyH.nil)
              · skip
                go_simp
                refine hK.out _ _ (show _ from ⟨⟨(K0.out.tf.one 1 (by omega)).1, (K0.out.tf.one 1 (by omega)).2.1, (K0.out.tf.one 1 (by omega)).2.2⟩, ⟨(K0.out.tf.two 1 (by omega)).1, (K0.out.tf.two 1 (by omega)).2.1, (K0.out.tf.two 1 (by omega)).2.2⟩⟩) (fun hHeld => ?_)
                clear hK Kp
                (try simp only [Act.put, List.getElem_toArray, List.getElem_cons_succ, List.getElem_cons_zero, List.setIfInBounds_toArray, List.set_cons_zero, List.set_cons_succ])
                refine wpAnyH_ready (rs := [14]) (by kernel_rfl) (by simp) ?_
                refine AllReadyH.cons rfl (fun Kp hK => ?_) AllReadyH.nil
                go_simp
                go_at_call 80
                (with_reducible refine (stimes_any (w.heap.size + 1 + 1 + 1) false (t.get 1) (v.get 1) _ (by have := K0.out.tf.size; have := o.hP; omega) K0.out.tf.cell K0.out.tf.free).mono ?_)
                rintro e w6 ho
                rw [e1] at ho
                obtain ⟨rfl, hs⟩ : e = .returned (.agg #[.int .i64 (Pd 0 1).re, .int .i64 (Pd 0 1).im, .int .i64 (Pd 0 1).den]) ∧ Sm (w.heap.size + 1 + 1 + 1) false _ _ := ho.fn
                have hzw6 := hs.size
                (try simp at hzw6)
                have K6 := Lib.hid (K0.out.sm o hs)
                clear ho hs
                refine hK.out _ _ (show _ from ⟨⟨(K6.out.tf.one 1 (by omega)).1, (K6.out.tf.one 1 (by omega)).2.1, (K6.out.tf.one 1 (by omega)).2.2⟩, ⟨(K6.out.tf.two 1 (by omega)).1, (K6.out.tf.two 1 (by omega)).2.1, (K6.out.tf.two 1 (by omega)).2.2⟩⟩) (fun hHeld => ?_)
                clear hK Kp
                (try simp only [Act.put, List.getElem_toArray, List.getElem_cons_succ, List.getElem_cons_zero, List.setIfInBounds_toArray, List.set_cons_zero, List.set_cons_succ])
                refine wpAnyH_ready (rs := [15]) (by kernel_rfl) (by simp) ?_
                refine AllReadyH.cons rfl (fun Kp hK => ?_) AllReadyH.nil
                go_simp
                go_at_call 77
                (with_reducible refine (sadd_any (w.heap.size + 1 + 1 + 1) false (Ac 0 1) (Pd 0 1) _ (by have := K6.out.tf.size; have := o.hP; omega) K6.out.tf.cell K6.out.tf.free).mono ?_)
                rintro e w7 ho
                rw [e2] at ho
                obtain ⟨rfl, hs⟩ : e = .returned (.agg #[.int .i64 (Ac 0 2).re, .int .i64 (Ac 0 2).im, .int .i64 (Ac 0 2).den]) ∧ Sm (w.heap.size + 1 + 1 + 1) false _ _ := ho.fn
                have hzw7 := hs.size
                (try simp at hzw7)
                have K7 := Lib.hid (K6.out.sm o hs)
                clear ho hs
                refine hK.out _ _ (show _ from ⟨⟨(K7.out.tf.one 1 (by omega)).1, (K7.out.tf.one 1 (by omega)).2.1, (K7.out.tf.one 1 (by omega)).2.2⟩, ⟨(K7.out.tf.two 1 (by omega)).1, (K7.out.tf.two 1 (by omega)).2.1, (K7.out.tf.two 1 (by omega)).2.2⟩⟩) (fun hHeld => ?_)
                clear hK Kp
                (try simp only [Act.put, List.getElem_toArray, List.getElem_cons_succ, List.getElem_cons_zero, List.setIfInBounds_toArray, List.set_cons_zero, List.set_cons_succ])
                obtain ⟨y0, q0⟩ := Option.isSome_iff_exists.1 (K7.out.room 0 (by omega)).1
                have fq0 := (K7.out.room 0 (by omega)).2
                obtain ⟨y1, q1⟩ := Option.isSome_iff_exists.1 (K7.out.room 1 (by omega)).1
                have fq1 := (K7.out.room 1 (by omega)).2
                obtain ⟨y2, q2⟩ := Option.isSome_iff_exists.1 (K7.out.room 2 (by omega)).1
                have fq2 := (K7.out.room 2 (by omega)).2
                refine wpAnyH_ready (rs := [16]) (by kernel_rfl) (by simp) ?_
                refine AllReadyH.cons rfl (fun Kp hK => ?_) AllReadyH.nil
                go_simp
                refine hK.out _ _ (show _ from ⟨⟨((K7.out.put o (Ac 0 2)).tf.one 1 (by omega)).1, ((K7.out.put o (Ac 0 2)).tf.one 1 (by omega)).2.1, ((K7.out.put o (Ac 0 2)).tf.one 1 (by omega)).2.2⟩, ⟨((K7.out.put o (Ac 0 2)).tf.two 1 (by omega)).1, ((K7.out.put o (Ac 0 2)).tf.two 1 (by omega)).2.1, ((K7.out.put o (Ac 0 2)).tf.two 1 (by omega)).2.2⟩⟩) (fun hHeld => ?_)
                clear hK Kp
                (try simp only [Act.put, List.getElem_toArray, List.getElem_cons_succ, List.getElem_cons_zero, List.setIfInBounds_toArray, List.set_cons_zero, List.set_cons_succ])
                refine wpAnyH_done (by kernel_rfl) ?_ _
                clear hHeld
                go_wp2
                go_roundw
                case rel =>
                  refine ⟨_, _, _, _, _, _, _, _, _, _, _, _, _, _, _, _, _, _, _, _, _, ⟨2, ?_, by omega, by omega, K7.out.put o _⟩, rfl⟩
                  first | rfl | go_num
                case measure => simp [intOf]
              · skip
                go_simp
                go_at_call 80
                (with_reducible refine (stimes_any (w.heap.size + 1 + 1 + 1) false (t.get 1) (v.get 1) _ (by have := K0.out.tf.size; have := o.hP; omega) K0.out.tf.cell K0.out.tf.free).mono ?_)
                rintro e w6 ho
                rw [e1] at ho
                obtain ⟨rfl, hs⟩ : e = .returned (.agg #[.int .i64 (Pd 0 1).re, .int .i64 (Pd 0 1).im, .int .i64 (Pd 0 1).den]) ∧ Sm (w.heap.size + 1 + 1 + 1) false _ _ := ho.fn
                have hzw6 := hs.size
                (try simp at hzw6)
                have K6 := Lib.hid (K0.out.sm o hs)
                clear ho hs
                obtain ⟨u0, u1, u2⟩ := K6.out.box.f3
                refine hK.out _ _ (show _ from ⟨⟨(K6.out.tf.one 1 (by omega)).1, (K6.out.tf.one 1 (by omega)).2.1, (K6.out.tf.one 1 (by omega)).2.2⟩, ⟨(K6.out.tf.two 1 (by omega)).1, (K6.out.tf.two 1 (by omega)).2.1, (K6.out.tf.two 1 (by omega)).2.2⟩⟩) (fun hHeld => ?_)
                clear hK Kp
                (try simp only [Act.put, List.getElem_toArray, List.getElem_cons_succ, List.getElem_cons_zero, List.setIfInBounds_toArray, List.set_cons_zero, List.set_cons_succ])
                refine wpAnyH_ready (rs := [1]) (by kernel_rfl) (by simp) ?_
                refine AllReadyH.cons rfl (fun Kp hK => ?_) AllReadyH.nil
                go_simp
                refine hK.out _ _ (show _ from ⟨⟨(K6.out.tf.one 1 (by omega)).1, (K6.out.tf.one 1 (by omega)).2.1, (K6.out.tf.one 1 (by omega)).2.2⟩, ⟨(K6.out.tf.two 1 (by omega)).1, (K6.out.tf.two 1 (by omega)).2.1, (K6.out.tf.two 1 (by omega)).2.2⟩⟩) (fun hHeld => ?_)
                clear hK Kp
                (try simp only [Act.put, List.getElem_toArray, List.getElem_cons_succ, List.getElem_cons_zero, List.setIfInBounds_toArray, List.set_cons_zero, List.set_cons_succ])
                refine wpAnyH_ready (rs := [15]) (by kernel_rfl) (by simp) ?_
                refine AllReadyH.cons rfl (fun Kp hK => ?_) AllReadyH.nil
                go_simp
                go_at_call 77
                (with_reducible refine (sadd_any (w.heap.size + 1 + 1 + 1) false (Ac 0 1) (Pd 0 1) _ (by have := K6.out.tf.size; have := o.hP; omega) K6.out.tf.cell K6.out.tf.free).mono ?_)
                rintro e w7 ho
                rw [e2] at ho
                obtain ⟨rfl, hs⟩ : e = .returned (.agg #[.int .i64 (Ac 0 2).re, .int .i64 (Ac 0 2).im, .int .i64 (Ac 0 2).den]) ∧ Sm (w.heap.size + 1 + 1 + 1) false _ _ := ho.fn
                have hzw7 := hs.size
                (try simp at hzw7)
                have K7 := Lib.hid (K6.out.sm o hs)
                clear ho hs
                refine hK.out _ _ (show _ from ⟨⟨(K7.out.tf.one 1 (by omega)).1, (K7.out.tf.one 1 (by omega)).2.1, (K7.out.tf.one 1 (by omega)).2.2⟩, ⟨(K7.out.tf.two 1 (by omega)).1, (K7.out.tf.two 1 (by omega)).2.1, (K7.out.tf.two 1 (by omega)).2.2⟩⟩) (fun hHeld => ?_)
                clear hK Kp
                (try simp only [Act.put, List.getElem_toArray, List.getElem_cons_succ, List.getElem_cons_zero, List.setIfInBounds_toArray, List.set_cons_zero, List.set_cons_succ])
                obtain ⟨y0, q0⟩ := Option.isSome_iff_exists.1 (K7.out.room 0 (by omega)).1
                have fq0 := (K7.out.room 0 (by omega)).2
                obtain ⟨y1, q1⟩ := Option.isSome_iff_exists.1 (K7.out.room 1 (by omega)).1
                have fq1 := (K7.out.room 1 (by omega)).2
                obtain ⟨y2, q2⟩ := Option.isSome_iff_exists.1 (K7.out.room 2 (by omega)).1
                have fq2 := (K7.out.room 2 (by omega)).2
                refine wpAnyH_ready (rs := [16]) (by kernel_rfl) (by simp) ?_
                refine AllReadyH.cons rfl (fun Kp hK => ?_) AllReadyH.nil
                go_simp
                refine hK.out _ _ (show _ from ⟨⟨((K7.out.put o (Ac 0 2)).tf.one 1 (by omega)).1, ((K7.out.put o (Ac 0 2)).tf.one 1 (by omega)).2.1, ((K7.out.put o (Ac 0 2)).tf.one 1 (by omega)).2.2⟩, ⟨((K7.out.put o (Ac 0 2)).tf.two 1 (by omega)).1, ((K7.out.put o (Ac 0 2)).tf.two 1 (by omega)).2.1, ((K7.out.put o (Ac 0 2)).tf.two 1 (by omega)).2.2⟩⟩) (fun hHeld => ?_)
                clear hK Kp
                (try simp only [Act.put, List.getElem_toArray, List.getElem_cons_succ, List.getElem_cons_zero, List.setIfInBounds_toArray, List.set_cons_zero, List.set_cons_succ])
                refine wpAnyH_done (by kernel_rfl) ?_ _
                clear hHeld
                go_wp2
                go_roundw
                case rel =>
                  refine ⟨_, _, _, _, _, _, _, _, _, _, _, _, _, _, _, _, _, _, _, _, _, ⟨2, ?_, by omega, by omega, K7.out.put o _⟩, rfl⟩
                  first | rfl | go_num
                case measure => simp [intOf]
            · skip
              have e1 : fTimes (t.get 2) (v.get 2) = (Pd 0 2, true) := hp 0 2 (by omega) (by omega) (by omega)
              have e2 : fAdd (Ac 0 2) (Pd 0 2) = (Ac 0 3, true) := ha 0 2 (by omega) (by omega) (by omega)
              have W5 : IntKind.i64.wrap 2 = 2 := by decide
              go_upto_region 10 with fail
              have K0 := Lib.hid hX.drew
              obtain ⟨x0, x1, x2⟩ := (show BoxAt (World.drew _) X (fun _ => Ac 0 2) 1 from K0.out.box).f3
              refine wp_region_held_drew (S := (fun w' => (w'.cell? ⟨w.heap.size, 6, none⟩ = some (.int .i64 (t.get 2).re) ∧ w'.cell? ⟨w.heap.size, 7, none⟩ = some (.int .i64 (t.get 2).im) ∧ w'.cell? ⟨w.heap.size, 8, none⟩ = some (.int .i64 (t.get 2).den)) ∧ (w'.cell? ⟨w.heap.size + 1, 6, none⟩ = some (.int .i64 (v.get 2).re) ∧ w'.cell? ⟨w.heap.size + 1, 7, none⟩ = some (.int .i64 (v.get 2).im) ∧ w'.cell? ⟨w.heap.size + 1, 8, none⟩ = some (.int .i64 (v.get 2).den)))) (by kernel_rfl) (show _ from ⟨⟨(K0.out.tf.one 2 (by omega)).1, (K0.out.tf.one 2 (by omega)).2.1, (K0.out.tf.one 2 (by omega)).2.2⟩, ⟨(K0.out.tf.two 2 (by omega)).1, (K0.out.tf.two 2 (by omega)).2.1, (K0.out.tf.two 2 (by omega)).2.2⟩⟩) (fun hHeld => ?_)
              refine wpAnyH_take (i := 0) (v := ?_) rfl (by kernel_rfl) (by kernel_rfl) (by kernel_rfl) (fun _ _ _ h => h) (Or.inl ⟨by rfl, ?_⟩) (by assumption) ?_
              rotate_left
              (focus (intro w hSw; (try dsimp only at hSw); go_simp; (try with_reducible rfl)))
              (try simp only [Act.put, List.getElem_toArray, List.getElem_cons_zero, List.setIfInBounds_toArray, List.set_cons_zero, List.set_cons_succ])
              refine wpAnyH_take (i := 2) (v := ?_) rfl (by kernel_rfl) (by kernel_rfl) (by kernel_rfl) (fun _ _ _ h => h) (Or.inl ⟨by rfl, ?_⟩) (by assumption) ?_
              rotate_left
              (focus (intro w hSw; (try dsimp only at hSw); go_simp; (try with_reducible rfl)))
              (try simp only [Act.put, List.getElem_toArray, List.getElem_cons_succ, List.getElem_cons_zero, List.setIfInBounds_toArray, List.set_cons_zero, List.set_cons_succ])
              refine wpAnyH_take (i := 3) (v := ?_) rfl (by kernel_rfl) (by kernel_rfl) (by kernel_rfl) (fun _ _ _ h => h) (Or.inl ⟨by rfl, ?_⟩) (by assumption) ?_
              rotate_left
              (focus (intro w hSw; (try dsimp only at hSw); go_simp; (try with_reducible rfl)))
              (try simp only [Act.put, List.getElem_toArray, List.getElem_cons_succ, List.getElem_cons_zero, List.setIfInBounds_toArray, List.set_cons_zero, List.set_cons_succ])
              refine wpAnyH_take (i := 4) (v := ?_) rfl (by kernel_rfl) (by kernel_rfl) (by kernel_rfl) (fun _ _ _ h => h) (Or.inl ⟨by rfl, ?_⟩) (by assumption) ?_
              rotate_left
              (focus (intro w hSw; (try dsimp only at hSw); go_simp; (try with_reducible rfl)))
              (try simp only [Act.put, List.getElem_toArray, List.getElem_cons_succ, List.getElem_cons_zero, List.setIfInBounds_toArray, List.set_cons_zero, List.set_cons_succ])
              refine wpAnyH_take (i := 5) (v := ?_) rfl (by kernel_rfl) (by kernel_rfl) (by kernel_rfl) (fun _ _ _ h => h) (Or.inl ⟨by rfl, ?_⟩) (by assumption) ?_
              rotate_left
              (focus (intro w hSw; (try dsimp only at hSw); go_simp; (try with_reducible rfl)))
              (try simp only [Act.put, List.getElem_toArray, List.getElem_cons_succ, List.getElem_cons_zero, List.setIfInBounds_toArray, List.set_cons_zero, List.set_cons_succ])
              refine wpAnyH_take (i := 6) (v := ?_) rfl (by kernel_rfl) (by kernel_rfl) (by kernel_rfl) (fun _ _ _ h => h) (Or.inl ⟨by rfl, ?_⟩) (by assumption) ?_
              rotate_left
              (focus (intro w hSw; (try dsimp only at hSw); go_simp; (try with_reducible rfl)))
              (try simp only [Act.put, List.getElem_toArray, List.getElem_cons_succ, List.getElem_cons_zero, List.setIfInBounds_toArray, List.set_cons_zero, List.set_cons_succ])
              refine wpAnyH_take (i := 7) (v := ?_) rfl (by kernel_rfl) (by kernel_rfl) (by kernel_rfl) (fun _ _ _ h => h) (Or.inl ⟨by rfl, ?_⟩) (by assumption) ?_
              rotate_left
              (focus (intro w hSw; (try dsimp only at hSw); go_simp; (try with_reducible rfl)))
              (try simp only [Act.put, List.getElem_toArray, List.getElem_cons_succ, List.getElem_cons_zero, List.setIfInBounds_toArray, List.set_cons_zero, List.set_cons_succ])
              refine wpAnyH_take (i := 8) (v := ?_) rfl (by kernel_rfl) (by kernel_rfl) (by kernel_rfl) (fun _ _ _ h => h) (Or.inl ⟨by rfl, ?_⟩) (by assumption) ?_
              rotate_left
              (focus (intro w hSw; (try dsimp only at hSw); go_simp; (try with_reducible rfl)))
              (try simp only [Act.put, List.getElem_toArray, List.getElem_cons_succ, List.getElem_cons_zero, List.setIfInBounds_toArray, List.set_cons_zero, List.set_cons_succ])
              refine wpAnyH_take (i := 9) (v := ?_) rfl (by kernel_rfl) (by kernel_rfl) (by kernel_rfl) (fun _ _ _ h => h) (Or.inl ⟨by rfl, ?_⟩) (by assumption) ?_
              rotate_left
              (focus (intro w hSw; (try dsimp only at hSw); go_simp; (try with_reducible rfl)))
              (try simp only [Act.put, List.getElem_toArray, List.getElem_cons_succ, List.getElem_cons_zero, List.setIfInBounds_toArray, List.set_cons_zero, List.set_cons_succ])
              refine wpAnyH_take (i := 10) (v := ?_) rfl (by kernel_rfl) (by kernel_rfl) (by kernel_rfl) (fun _ _ _ h => h) (Or.inl ⟨by rfl, ?_⟩) (by assumption) ?_
              rotate_left
              (focus (intro w hSw; (try dsimp only at hSw); go_simp; (try with_reducible rfl)))
              (try simp only [Act.put, List.getElem_toArray, List.getElem_cons_succ, List.getElem_cons_zero, List.setIfInBounds_toArray, List.set_cons_zero, List.set_cons_succ])
              refine wpAnyH_take (i := 11) (v := ?_) rfl (by kernel_rfl) (by kernel_rfl) (by kernel_rfl) (fun _ _ _ h => h) (Or.inl ⟨by rfl, ?_⟩) (by assumption) ?_
              rotate_left
              (focus (intro w hSw; (try dsimp only at hSw); go_simp; (try with_reducible rfl)))
              (try simp only [Act.put, List.getElem_toArray, List.getElem_cons_succ, List.getElem_cons_zero, List.setIfInBounds_toArray, List.set_cons_zero, List.set_cons_succ])
              refine wpAnyH_take (i := 12) (v := ?_) rfl (by kernel_rfl) (by kernel_rfl) (by kernel_rfl) (fun _ _ _ h => h) (Or.inl ⟨by rfl, ?_⟩) (by assumption) ?_
              rotate_left
              (focus (intro w hSw; (try dsimp only at hSw); go_simp; (try with_reducible rfl)))
              (try simp only [Act.put, List.getElem_toArray, List.getElem_cons_succ, List.getElem_cons_zero, List.setIfInBounds_toArray, List.set_cons_zero, List.set_cons_succ])
              refine wpAnyH_take (i := 13) (v := ?_) rfl (by kernel_rfl) (by kernel_rfl) (by kernel_rfl) (fun _ _ _ h => h) (Or.inl ⟨by rfl, ?_⟩) (by assumption) ?_
              rotate_left
              (focus (intro w hSw; (try dsimp only at hSw); go_simp; (try with_reducible rfl)))
              (try simp only [Act.put, List.getElem_toArray, List.getElem_cons_succ, List.getElem_cons_zero, List.setIfInBounds_toArray, List.set_cons_zero, List.set_cons_succ])
              refine wpAnyH_ready (rs := [1, 14]) (by kernel_rfl) (by simp) ?_
              refine AllReadyH.cons rfl (fun Kp hK => ?_) (AllReadyH.cons rfl (fun Kp hK => ?_) AllReadyH.nil)
              · skip
                go_simp
                refine hK.out _ _ (show _ from ⟨⟨(K0.out.tf.one 2 (by omega)).1, (K0.out.tf.one 2 (by omega)).2.1, (K0.out.tf.one 2 (by omega)).2.2⟩, ⟨(K0.out.tf.two 2 (by omega)).1, (K0.out.tf.two 2 (by omega)).2.1, (K0.out.tf.two 2 (by omega)).2.2⟩⟩) (fun hHeld => ?_)
                clear hK Kp
                (try simp only [Act.put, List.getElem_toArray, List.getElem_cons_succ, List.getElem_cons_zero, List.setIfInBounds_toArray, List.set_cons_zero, List.set_cons_succ])
                refine wpAnyH_ready (rs := [14]) (by kernel_rfl) (by simp) ?_
                refine AllReadyH.cons rfl (fun Kp hK => ?_) AllReadyH.nil
                go_simp
                go_at_call 80
                (with_reducible refine (stimes_any (w.heap.size + 1 + 1 + 1) false (t.get 2) (v.get 2) _ (by have := K0.out.tf.size; have := o.hP; omega) K0.out.tf.cell K0.out.tf.free).mono ?_)
                rintro e w6 ho
                rw [e1] at ho
                obtain ⟨rfl, hs⟩ : e = .returned (.agg #[.int .i64 (Pd 0 2).re, .int .i64 (Pd 0 2).im, .int .i64 (Pd 0 2).den]) ∧ Sm (w.heap.size + 1 + 1 + 1) false _ _ := ho.fn
                have hzw6 := hs.size
                (try simp at hzw6)
                have K6 := Lib.hid (K0.out.sm o hs)
                clear ho hs
                refine hK.out _ _ (show _ from ⟨⟨(K6.out.tf.one 2 (by omega)).1, (K6.out.tf.one 2 (by omega)).2.1, (K6.out.tf.one 2 (by omega)).2.2⟩, ⟨(K6.out.tf.two 2 (by omega)).1, (K6.out.tf.two 2 (by omega)).2.1, (K6.out.tf.two 2 (by omega)).2.2⟩⟩) (fun hHeld => ?_)
                clear hK Kp
                (try simp only [Act.put, List.getElem_toArray, List.getElem_cons_succ, List.getElem_cons_zero, List.setIfInBounds_toArray, List.set_cons_zero, List.set_cons_succ])
                refine wpAnyH_ready (rs := [15]) (by kernel_rfl) (by simp) ?_
                refine AllReadyH.cons rfl (fun Kp hK => ?_) AllReadyH.nil
                go_simp
                go_at_call 77
                (with_reducible refine (sadd_any (w.heap.size + 1 + 1 + 1) false (Ac 0 2) (Pd 0 2) _ (by have := K6.out.tf.size; have := o.hP; omega) K6.out.tf.cell K6.out.tf.free).mono ?_)
                rintro e w7 ho
                rw [e2] at ho
                obtain ⟨rfl, hs⟩ : e = .returned (.agg #[.int .i64 (Ac 0 3).re, .int .i64 (Ac 0 3).im, .int .i64 (Ac 0 3).den]) ∧ Sm (w.heap.size + 1 + 1 + 1) false _ _ := ho.fn
                have hzw7 := hs.size
                (try simp at hzw7)
                have K7 := Lib.hid (K6.out.sm o hs)
                clear ho hs
                refine hK.out _ _ (show _ from ⟨⟨(K7.out.tf.one 2 (by omega)).1, (K7.out.tf.one 2 (by omega)).2.1, (K7.out.tf.one 2 (by omega)).2.2⟩, ⟨(K7.out.tf.two 2 (by omega)).1, (K7.out.tf.two 2 (by omega)).2.1, (K7.out.tf.two 2 (by omega)).2.2⟩⟩) (fun hHeld => ?_)
                clear hK Kp
                (try simp only [Act.put, List.getElem_toArray, List.getElem_cons_succ, List.getElem_cons_zero, List.setIfInBounds_toArray, List.set_cons_zero, List.set_cons_succ])
                obtain ⟨y0, q0⟩ := Option.isSome_iff_exists.1 (K7.out.room 0 (by omega)).1
                have fq0 := (K7.out.room 0 (by omega)).2
                obtain ⟨y1, q1⟩ := Option.isSome_iff_exists.1 (K7.out.room 1 (by omega)).1
                have fq1 := (K7.out.room 1 (by omega)).2
                obtain ⟨y2, q2⟩ := Option.isSome_iff_exists.1 (K7.out.room 2 (by omega)).1
                have fq2 := (K7.out.room 2 (by omega)).2
                refine wpAnyH_ready (rs := [16]) (by kernel_rfl) (by simp) ?_
                refine AllReadyH.cons rfl (fun Kp hK => ?_) AllReadyH.nil
                go_simp
                refine hK.out _ _ (show _ from ⟨⟨((K7.out.put o (Ac 0 3)).tf.one 2 (by omega)).1, ((K7.out.put o (Ac 0 3)).tf.one 2 (by omega)).2.1, ((K7.out.put o (Ac 0 3)).tf.one 2 (by omega)).2.2⟩, ⟨((K7.out.put o (Ac 0 3)).tf.two 2 (by omega)).1, ((K7.out.put o (Ac 0 3)).tf.two 2 (by omega)).2.1, ((K7.out.put o (Ac 0 3)).tf.two 2 (by omega)).2.2⟩⟩) (fun hHeld => ?_)
                clear hK Kp
                (try simp only [Act.put, List.getElem_toArray, List.getElem_cons_succ, List.getElem_cons_zero, List.setIfInBounds_toArray, List.set_cons_zero, List.set_cons_succ])
                refine wpAnyH_done (by kernel_rfl) ?_ _
                clear hHeld
                go_wp2
                go_roundw
                case rel =>
                  refine ⟨_, _, _, _, _, _, _, _, _, _, _, _, _, _, _, _, _, _, _, _, _, ⟨3, ?_, by omega, by omega, K7.out.put o _⟩, rfl⟩
                  first | rfl | go_num
                case measure => simp [intOf]
              · skip
                go_simp
                go_at_call 80
                (with_reducible refine (stimes_any (w.heap.size + 1 + 1 + 1) false (t.get 2) (v.get 2) _ (by have := K0.out.tf.size; have := o.hP; omega) K0.out.tf.cell K0.out.tf.free).mono ?_)
                rintro e w6 ho
                rw [e1] at ho
                obtain ⟨rfl, hs⟩ : e = .returned (.agg #[.int .i64 (Pd 0 2).re, .int .i64 (Pd 0 2).im, .int .i64 (Pd 0 2).den]) ∧ Sm (w.heap.size + 1 + 1 + 1) false _ _ := ho.fn
                have hzw6 := hs.size
                (try simp at hzw6)
                have K6 := Lib.hid (K0.out.sm o hs)
                clear ho hs
                obtain ⟨u0, u1, u2⟩ := K6.out.box.f3
                refine hK.out _ _ (show _ from ⟨⟨(K6.out.tf.one 2 (by omega)).1, (K6.out.tf.one 2 (by omega)).2.1, (K6.out.tf.one 2 (by omega)).2.2⟩, ⟨(K6.out.tf.two 2 (by omega)).1, (K6.out.tf.two 2 (by omega)).2.1, (K6.out.tf.two 2 (by omega)).2.2⟩⟩) (fun hHeld => ?_)
                clear hK Kp
                (try simp only [Act.put, List.getElem_toArray, List.getElem_cons_succ, List.getElem_cons_zero, List.setIfInBounds_toArray, List.set_cons_zero, List.set_cons_succ])
                refine wpAnyH_ready (rs := [1]) (by kernel_rfl) (by simp) ?_
                refine AllReadyH.cons rfl (fun Kp hK => ?_) AllReadyH.nil
                go_simp
                refine hK.out _ _ (show _ from ⟨⟨(K6.out.tf.one 2 (by omega)).1, (K6.out.tf.one 2 (by omega)).2.1, (K6.out.tf.one 2 (by omega)).2.2⟩, ⟨(K6.out.tf.two 2 (by omega)).1, (K6.out.tf.two 2 (by omega)).2.1, (K6.out.tf.two 2 (by omega)).2.2⟩⟩) (fun hHeld => ?_)
                clear hK Kp
                (try simp only [Act.put, List.getElem_toArray, List.getElem_cons_succ, List.getElem_cons_zero, List.setIfInBounds_toArray, List.set_cons_zero, List.set_cons_succ])
                refine wpAnyH_ready (rs := [15]) (by kernel_rfl) (by simp) ?_
                refine AllReadyH.cons rfl (fun Kp hK => ?_) AllReadyH.nil
                go_simp
                go_at_call 77
                (with_reducible refine (sadd_any (w.heap.size + 1 + 1 + 1) false (Ac 0 2) (Pd 0 2) _ (by have := K6.out.tf.size; have := o.hP; omega) K6.out.tf.cell K6.out.tf.free).mono ?_)
                rintro e w7 ho
                rw [e2] at ho
                obtain ⟨rfl, hs⟩ : e = .returned (.agg #[.int .i64 (Ac 0 3).re, .int .i64 (Ac 0 3).im, .int .i64 (Ac 0 3).den]) ∧ Sm (w.heap.size + 1 + 1 + 1) false _ _ := ho.fn
                have hzw7 := hs.size
                (try simp at hzw7)
                have K7 := Lib.hid (K6.out.sm o hs)
                clear ho hs
                refine hK.out _ _ (show _ from ⟨⟨(K7.out.tf.one 2 (by omega)).1, (K7.out.tf.one 2 (by omega)).2.1, (K7.out.tf.one 2 (by omega)).2.2⟩, ⟨(K7.out.tf.two 2 (by omega)).1, (K7.out.tf.two 2 (by omega)).2.1, (K7.out.tf.two 2 (by omega)).2.2⟩⟩) (fun hHeld => ?_)
                clear hK Kp
                (try simp only [Act.put, List.getElem_toArray, List.getElem_cons_succ, List.getElem_cons_zero, List.setIfInBounds_toArray, List.set_cons_zero, List.set_cons_succ])
                obtain ⟨y0, q0⟩ := Option.isSome_iff_exists.1 (K7.out.room 0 (by omega)).1
                have fq0 := (K7.out.room 0 (by omega)).2
                obtain ⟨y1, q1⟩ := Option.isSome_iff_exists.1 (K7.out.room 1 (by omega)).1
                have fq1 := (K7.out.room 1 (by omega)).2
                obtain ⟨y2, q2⟩ := Option.isSome_iff_exists.1 (K7.out.room 2 (by omega)).1
                have fq2 := (K7.out.room 2 (by omega)).2
                refine wpAnyH_ready (rs := [16]) (by kernel_rfl) (by simp) ?_
                refine AllReadyH.cons rfl (fun Kp hK => ?_) AllReadyH.nil
                go_simp
                refine hK.out _ _ (show _ from ⟨⟨((K7.out.put o (Ac 0 3)).tf.one 2 (by omega)).1, ((K7.out.put o (Ac 0 3)).tf.one 2 (by omega)).2.1, ((K7.out.put o (Ac 0 3)).tf.one 2 (by omega)).2.2⟩, ⟨((K7.out.put o (Ac 0 3)).tf.two 2 (by omega)).1, ((K7.out.put o (Ac 0 3)).tf.two 2 (by omega)).2.1, ((K7.out.put o (Ac 0 3)).tf.two 2 (by omega)).2.2⟩⟩) (fun hHeld => ?_)
                clear hK Kp
                (try simp only [Act.put, List.getElem_toArray, List.getElem_cons_succ, List.getElem_cons_zero, List.setIfInBounds_toArray, List.set_cons_zero, List.set_cons_succ])
                refine wpAnyH_done (by kernel_rfl) ?_ _
                clear hHeld
                go_wp2
                go_roundw
                case rel =>
                  refine ⟨_, _, _, _, _, _, _, _, _, _, _, _, _, _, _, _, _, _, _, _, _, ⟨3, ?_, by omega, by omega, K7.out.put o _⟩, rfl⟩
                  first | rfl | go_num
                case measure => simp [intOf]
            · skip
              have e1 : fTimes (t.get 3) (v.get 3) = (Pd 0 3, true) := hp 0 3 (by omega) (by omega) (by omega)
              have e2 : fAdd (Ac 0 3) (Pd 0 3) = (Ac 0 4, true) := ha 0 3 (by omega) (by omega) (by omega)
              have W5 : IntKind.i64.wrap 3 = 3 := by decide
              go_upto_region 10 with fail
              have K0 := Lib.hid hX.drew
              obtain ⟨x0, x1, x2⟩ := (show BoxAt (World.drew _) X (fun _ => Ac 0 3) 1 from K0.out.box).f3
              refine wp_region_held_drew (S := (fun w' => (w'.cell? ⟨w.heap.size, 9, none⟩ = some (.int .i64 (t.get 3).re) ∧ w'.cell? ⟨w.heap.size, 10, none⟩ = some (.int .i64 (t.get 3).im) ∧ w'.cell? ⟨w.heap.size, 11, none⟩ = some (.int .i64 (t.get 3).den)) ∧ (w'.cell? ⟨w.heap.size + 1, 9, none⟩ = some (.int .i64 (v.get 3).re) ∧ w'.cell? ⟨w.heap.size + 1, 10, none⟩ = some (.int .i64 (v.get 3).im) ∧ w'.cell? ⟨w.heap.size + 1, 11, none⟩ = some (.int .i64 (v.get 3).den)))) (by kernel_rfl) (show _ from ⟨⟨(K0.out.tf.one 3 (by omega)).1, (K0.out.tf.one 3 (by omega)).2.1, (K0.out.tf.one 3 (by omega)).2.2⟩, ⟨(K0.out.tf.two 3 (by omega)).1, (K0.out.tf.two 3 (by omega)).2.1, (K0.out.tf.two 3 (by omega)).2.2⟩⟩) (fun hHeld => ?_)
              refine wpAnyH_take (i := 0) (v := ?_) rfl (by kernel_rfl) (by kernel_rfl) (by kernel_rfl) (fun _ _ _ h => h) (Or.inl ⟨by rfl, ?_⟩) (by assumption) ?_
              rotate_left
              (focus (intro w hSw; (try dsimp only at hSw); go_simp; (try with_reducible rfl)))
              (try simp only [Act.put, List.getElem_toArray, List.getElem_cons_zero, List.setIfInBounds_toArray, List.set_cons_zero, List.set_cons_succ])
              refine wpAnyH_take (i := 2) (v := ?_) rfl (by kernel_rfl) (by kernel_rfl) (by kernel_rfl) (fun _ _ _ h => h) (Or.inl ⟨by rfl, ?_⟩) (by assumption) ?_
              rotate_left
              (focus (intro w hSw; (try dsimp only at hSw); go_simp; (try with_reducible rfl)))
              (try simp only [Act.put, List.getElem_toArray, List.getElem_cons_succ, List.getElem_cons_zero, List.setIfInBounds_toArray, List.set_cons_zero, List.set_cons_succ])
              refine wpAnyH_take (i := 3) (v := ?_) rfl (by kernel_rfl) (by kernel_rfl) (by kernel_rfl) (fun _ _ _ h => h) (Or.inl ⟨by rfl, ?_⟩) (by assumption) ?_
              rotate_left
              (focus (intro w hSw; (try dsimp only at hSw); go_simp; (try with_reducible rfl)))
              (try simp only [Act.put, List.getElem_toArray, List.getElem_cons_succ, List.getElem_cons_zero, List.setIfInBounds_toArray, List.set_cons_zero, List.set_cons_succ])
              refine wpAnyH_take (i := 4) (v := ?_) rfl (by kernel_rfl) (by kernel_rfl) (by kernel_rfl) (fun _ _ _ h => h) (Or.inl ⟨by rfl, ?_⟩) (by assumption) ?_
              rotate_left
              (focus (intro w hSw; (try dsimp only at hSw); go_simp; (try with_reducible rfl)))
              (try simp only [Act.put, List.getElem_toArray, List.getElem_cons_succ, List.getElem_cons_zero, List.setIfInBounds_toArray, List.set_cons_zero, List.set_cons_succ])
              refine wpAnyH_take (i := 5) (v := ?_) rfl (by kernel_rfl) (by kernel_rfl) (by kernel_rfl) (fun _ _ _ h => h) (Or.inl ⟨by rfl, ?_⟩) (by assumption) ?_
              rotate_left
              (focus (intro w hSw; (try dsimp only at hSw); go_simp; (try with_reducible rfl)))
              (try simp only [Act.put, List.getElem_toArray, List.getElem_cons_succ, List.getElem_cons_zero, List.setIfInBounds_toArray, List.set_cons_zero, List.set_cons_succ])
              refine wpAnyH_take (i := 6) (v := ?_) rfl (by kernel_rfl) (by kernel_rfl) (by kernel_rfl) (fun _ _ _ h => h) (Or.inl ⟨by rfl, ?_⟩) (by assumption) ?_
              rotate_left
              (focus (intro w hSw; (try dsimp only at hSw); go_simp; (try with_reducible rfl)))
              (try simp only [Act.put, List.getElem_toArray, List.getElem_cons_succ, List.getElem_cons_zero, List.setIfInBounds_toArray, List.set_cons_zero, List.set_cons_succ])
              refine wpAnyH_take (i := 7) (v := ?_) rfl (by kernel_rfl) (by kernel_rfl) (by kernel_rfl) (fun _ _ _ h => h) (Or.inl ⟨by rfl, ?_⟩) (by assumption) ?_
              rotate_left
              (focus (intro w hSw; (try dsimp only at hSw); go_simp; (try with_reducible rfl)))
              (try simp only [Act.put, List.getElem_toArray, List.getElem_cons_succ, List.getElem_cons_zero, List.setIfInBounds_toArray, List.set_cons_zero, List.set_cons_succ])
              refine wpAnyH_take (i := 8) (v := ?_) rfl (by kernel_rfl) (by kernel_rfl) (by kernel_rfl) (fun _ _ _ h => h) (Or.inl ⟨by rfl, ?_⟩) (by assumption) ?_
              rotate_left
              (focus (intro w hSw; (try dsimp only at hSw); go_simp; (try with_reducible rfl)))
              (try simp only [Act.put, List.getElem_toArray, List.getElem_cons_succ, List.getElem_cons_zero, List.setIfInBounds_toArray, List.set_cons_zero, List.set_cons_succ])
              refine wpAnyH_take (i := 9) (v := ?_) rfl (by kernel_rfl) (by kernel_rfl) (by kernel_rfl) (fun _ _ _ h => h) (Or.inl ⟨by rfl, ?_⟩) (by assumption) ?_
              rotate_left
              (focus (intro w hSw; (try dsimp only at hSw); go_simp; (try with_reducible rfl)))
              (try simp only [Act.put, List.getElem_toArray, List.getElem_cons_succ, List.getElem_cons_zero, List.setIfInBounds_toArray, List.set_cons_zero, List.set_cons_succ])
              refine wpAnyH_take (i := 10) (v := ?_) rfl (by kernel_rfl) (by kernel_rfl) (by kernel_rfl) (fun _ _ _ h => h) (Or.inl ⟨by rfl, ?_⟩) (by assumption) ?_
              rotate_left
              (focus (intro w hSw; (try dsimp only at hSw); go_simp; (try with_reducible rfl)))
              (try simp only [Act.put, List.getElem_toArray, List.getElem_cons_succ, List.getElem_cons_zero, List.setIfInBounds_toArray, List.set_cons_zero, List.set_cons_succ])
              refine wpAnyH_take (i := 11) (v := ?_) rfl (by kernel_rfl) (by kernel_rfl) (by kernel_rfl) (fun _ _ _ h => h) (Or.inl ⟨by rfl, ?_⟩) (by assumption) ?_
              rotate_left
              (focus (intro w hSw; (try dsimp only at hSw); go_simp; (try with_reducible rfl)))
              (try simp only [Act.put, List.getElem_toArray, List.getElem_cons_succ, List.getElem_cons_zero, List.setIfInBounds_toArray, List.set_cons_zero, List.set_cons_succ])
              refine wpAnyH_take (i := 12) (v := ?_) rfl (by kernel_rfl) (by kernel_rfl) (by kernel_rfl) (fun _ _ _ h => h) (Or.inl ⟨by rfl, ?_⟩) (by assumption) ?_
              rotate_left
              (focus (intro w hSw; (try dsimp only at hSw); go_simp; (try with_reducible rfl)))
              (try simp only [Act.put, List.getElem_toArray, List.getElem_cons_succ, List.getElem_cons_zero, List.setIfInBounds_toArray, List.set_cons_zero, List.set_cons_succ])
              refine wpAnyH_take (i := 13) (v := ?_) rfl (by kernel_rfl) (by kernel_rfl) (by kernel_rfl) (fun _ _ _ h => h) (Or.inl ⟨by rfl, ?_⟩) (by assumption) ?_
              rotate_left
              (focus (intro w hSw; (try dsimp only at hSw); go_simp; (try with_reducible rfl)))
              (try simp only [Act.put, List.getElem_toArray, List.getElem_cons_succ, List.getElem_cons_zero, List.setIfInBounds_toArray, List.set_cons_zero, List.set_cons_succ])
              refine wpAnyH_ready (rs := [1, 14]) (by kernel_rfl) (by simp) ?_
              refine AllReadyH.cons rfl (fun Kp hK => ?_) (AllReadyH.cons rfl (fun Kp hK => ?_) AllReadyH.nil)
              · skip
                go_simp
                refine hK.out _ _ (show _ from ⟨⟨(K0.out.tf.one 3 (by omega)).1, (K0.out.tf.one 3 (by omega)).2.1, (K0.out.tf.one 3 (by omega)).2.2⟩, ⟨(K0.out.tf.two 3 (by omega)).1, (K0.out.tf.two 3 (by omega)).2.1, (K0.out.tf.two 3 (by omega)).2.2⟩⟩) (fun hHeld => ?_)
                clear hK Kp
                (try simp only [Act.put, List.getElem_toArray, List.getElem_cons_succ, List.getElem_cons_zero, List.setIfInBounds_toArray, List.set_cons_zero, List.set_cons_succ])
                refine wpAnyH_ready (rs := [14]) (by kernel_rfl) (by simp) ?_
                refine AllReadyH.cons rfl (fun Kp hK => ?_) AllReadyH.nil
                go_simp
                go_at_call 80
                (with_reducible refine (stimes_any (w.heap.size + 1 + 1 + 1) false (t.get 3) (v.get 3) _ (by have := K0.out.tf.size; have := o.hP; omega) K0.out.tf.cell K0.out.tf.free).mono ?_)
                rintro e w6 ho
                rw [e1] at ho
                obtain ⟨rfl, hs⟩ : e = .returned (.agg #[.int .i64 (Pd 0 3).re, .int .i64 (Pd 0 3).im, .int .i64 (Pd 0 3).den]) ∧ Sm (w.heap.size + 1 + 1 + 1) false _ _ := ho.fn
                have hzw6 := hs.size
                (try simp at hzw6)
                have K6 := Lib.hid (K0.out.sm o hs)
                clear ho hs
                refine hK.out _ _ (show _ from ⟨⟨(K6.out.tf.one 3 (by omega)).1, (K6.out.tf.one 3 (by omega)).2.1, (K6.out.tf.one 3 (by omega)).2.2⟩, ⟨(K6.out.tf.two 3 (by omega)).1, (K6.out.tf.two 3 (by omega)).2.1, (K6.out.tf.two 3 (by omega)).2.2⟩⟩) (fun hHeld => ?_)
                clear hK Kp
                (try simp only [Act.put, List.getElem_toArray, List.getElem_cons_succ, List.getElem_cons_zero, List.setIfInBounds_toArray, List.set_cons_zero, List.set_cons_succ])
                refine wpAnyH_ready (rs := [15]) (by kernel_rfl) (by simp) ?_
                refine AllReadyH.cons rfl (fun Kp hK => ?_) AllReadyH.nil
                go_simp
                go_at_call 77
                (with_reducible refine (sadd_any (w.heap.size + 1 + 1 + 1) false (Ac 0 3) (Pd 0 3) _ (by have := K6.out.tf.size; have := o.hP; omega) K6.out.tf.cell K6.out.tf.free).mono ?_)
                rintro e w7 ho
                rw [e2] at ho
                obtain ⟨rfl, hs⟩ : e = .returned (.agg #[.int .i64 (Ac 0 4).re, .int .i64 (Ac 0 4).im, .int .i64 (Ac 0 4).den]) ∧ Sm (w.heap.size + 1 + 1 + 1) false _ _ := ho.fn
                have hzw7 := hs.size
                (try simp at hzw7)
                have K7 := Lib.hid (K6.out.sm o hs)
                clear ho hs
                refine hK.out _ _ (show _ from ⟨⟨(K7.out.tf.one 3 (by omega)).1, (K7.out.tf.one 3 (by omega)).2.1, (K7.out.tf.one 3 (by omega)).2.2⟩, ⟨(K7.out.tf.two 3 (by omega)).1, (K7.out.tf.two 3 (by omega)).2.1, (K7.out.tf.two 3 (by omega)).2.2⟩⟩) (fun hHeld => ?_)
                clear hK Kp
                (try simp only [Act.put, List.getElem_toArray, List.getElem_cons_succ, List.getElem_cons_zero, List.setIfInBounds_toArray, List.set_cons_zero, List.set_cons_succ])
                obtain ⟨y0, q0⟩ := Option.isSome_iff_exists.1 (K7.out.room 0 (by omega)).1
                have fq0 := (K7.out.room 0 (by omega)).2
                obtain ⟨y1, q1⟩ := Option.isSome_iff_exists.1 (K7.out.room 1 (by omega)).1
                have fq1 := (K7.out.room 1 (by omega)).2
                obtain ⟨y2, q2⟩ := Option.isSome_iff_exists.1 (K7.out.room 2 (by omega)).1
                have fq2 := (K7.out.room 2 (by omega)).2
                refine wpAnyH_ready (rs := [16]) (by kernel_rfl) (by simp) ?_
                refine AllReadyH.cons rfl (fun Kp hK => ?_) AllReadyH.nil
                go_simp
                refine hK.out _ _ (show _ from ⟨⟨((K7.out.put o (Ac 0 4)).tf.one 3 (by omega)).1, ((K7.out.put o (Ac 0 4)).tf.one 3 (by omega)).2.1, ((K7.out.put o (Ac 0 4)).tf.one 3 (by omega)).2.2⟩, ⟨((K7.out.put o (Ac 0 4)).tf.two 3 (by omega)).1, ((K7.out.put o (Ac 0 4)).tf.two 3 (by omega)).2.1, ((K7.out.put o (Ac 0 4)).tf.two 3 (by omega)).2.2⟩⟩) (fun hHeld => ?_)
                clear hK Kp
                (try simp only [Act.put, List.getElem_toArray, List.getElem_cons_succ, List.getElem_cons_zero, List.setIfInBounds_toArray, List.set_cons_zero, List.set_cons_succ])
                refine wpAnyH_done (by kernel_rfl) ?_ _
                clear hHeld
                go_wp2
                go_roundw
                case rel =>
                  refine ⟨_, _, _, _, _, _, _, _, _, _, _, _, _, _, _, _, _, _, _, _, _, ⟨4, ?_, by omega, by omega, K7.out.put o _⟩, rfl⟩
                  first | rfl | go_num
                case measure => simp [intOf]
              · skip
                go_simp
                go_at_call 80
                (with_reducible refine (stimes_any (w.heap.size + 1 + 1 + 1) false (t.get 3) (v.get 3) _ (by have := K0.out.tf.size; have := o.hP; omega) K0.out.tf.cell K0.out.tf.free).mono ?_)
                rintro e w6 ho
                rw [e1] at ho
                obtain ⟨rfl, hs⟩ : e = .returned (.agg #[.int .i64 (Pd 0 3).re, .int .i64 (Pd 0 3).im, .int .i64 (Pd 0 3).den]) ∧ Sm (w.heap.size + 1 + 1 + 1) false _ _ := ho.fn
                have hzw6 := hs.size
                (try simp at hzw6)
                have K6 := Lib.hid (K0.out.sm o hs)
                clear ho hs
                obtain ⟨u0, u1, u2⟩ := K6.out.box.f3
                refine hK.out _ _ (show _ from ⟨⟨(K6.out.tf.one 3 (by omega)).1, (K6.out.tf.one 3 (by omega)).2.1, (K6.out.tf.one 3 (by omega)).2.2⟩, ⟨(K6.out.tf.two 3 (by omega)).1, (K6.out.tf.two 3 (by omega)).2.1, (K6.out.tf.two 3 (by omega)).2.2⟩⟩) (fun hHeld => ?_)
                clear hK Kp
                (try simp only [Act.put, List.getElem_toArray, List.getElem_cons_succ, List.getElem_cons_zero, List.setIfInBounds_toArray, List.set_cons_zero, List.set_cons_succ])
                refine wpAnyH_ready (rs := [1]) (by kernel_rfl) (by simp) ?_
                refine AllReadyH.cons rfl (fun Kp hK => ?_) AllReadyH.nil
                go_simp
                refine hK.out _ _ (show _ from ⟨⟨(K6.out.tf.one 3 (by omega)).1, (K6.out.tf.one 3 (by omega)).2.1, (K6.out.tf.one 3 (by omega)).2.2⟩, ⟨(K6.out.tf.two 3 (by omega)).1, (K6.out.tf.two 3 (by omega)).2.1, (K6.out.tf.two 3 (by omega)).2.2⟩⟩) (fun hHeld => ?_)
                clear hK Kp
                (try simp only [Act.put, List.getElem_toArray, List.getElem_cons_succ, List.getElem_cons_zero, List.setIfInBounds_toArray, List.set_cons_zero, List.set_cons_succ])
                refine wpAnyH_ready (rs := [15]) (by kernel_rfl) (by simp) ?_
                refine AllReadyH.cons rfl (fun Kp hK => ?_) AllReadyH.nil
                go_simp
                go_at_call 77
                (with_reducible refine (sadd_any (w.heap.size + 1 + 1 + 1) false (Ac 0 3) (Pd 0 3) _ (by have := K6.out.tf.size; have := o.hP; omega) K6.out.tf.cell K6.out.tf.free).mono ?_)
                rintro e w7 ho
                rw [e2] at ho
                obtain ⟨rfl, hs⟩ : e = .returned (.agg #[.int .i64 (Ac 0 4).re, .int .i64 (Ac 0 4).im, .int .i64 (Ac 0 4).den]) ∧ Sm (w.heap.size + 1 + 1 + 1) false _ _ := ho.fn
                have hzw7 := hs.size
                (try simp at hzw7)
                have K7 := Lib.hid (K6.out.sm o hs)
                clear ho hs
                refine hK.out _ _ (show _ from ⟨⟨(K7.out.tf.one 3 (by omega)).1, (K7.out.tf.one 3 (by omega)).2.1, (K7.out.tf.one 3 (by omega)).2.2⟩, ⟨(K7.out.tf.two 3 (by omega)).1, (K7.out.tf.two 3 (by omega)).2.1, (K7.out.tf.two 3 (by omega)).2.2⟩⟩) (fun hHeld => ?_)
                clear hK Kp
                (try simp only [Act.put, List.getElem_toArray, List.getElem_cons_succ, List.getElem_cons_zero, List.setIfInBounds_toArray, List.set_cons_zero, List.set_cons_succ])
                obtain ⟨y0, q0⟩ := Option.isSome_iff_exists.1 (K7.out.room 0 (by omega)).1
                have fq0 := (K7.out.room 0 (by omega)).2
                obtain ⟨y1, q1⟩ := Option.isSome_iff_exists.1 (K7.out.room 1 (by omega)).1
                have fq1 := (K7.out.room 1 (by omega)).2
                obtain ⟨y2, q2⟩ := Option.isSome_iff_exists.1 (K7.out.room 2 (by omega)).1
                have fq2 := (K7.out.room 2 (by omega)).2
                refine wpAnyH_ready (rs := [16]) (by kernel_rfl) (by simp) ?_
                refine AllReadyH.cons rfl (fun Kp hK => ?_) AllReadyH.nil
                go_simp
                refine hK.out _ _ (show _ from ⟨⟨((K7.out.put o (Ac 0 4)).tf.one 3 (by omega)).1, ((K7.out.put o (Ac 0 4)).tf.one 3 (by omega)).2.1, ((K7.out.put o (Ac 0 4)).tf.one 3 (by omega)).2.2⟩, ⟨((K7.out.put o (Ac 0 4)).tf.two 3 (by omega)).1, ((K7.out.put o (Ac 0 4)).tf.two 3 (by omega)).2.1, ((K7.out.put o (Ac 0 4)).tf.two 3 (by omega)).2.2⟩⟩) (fun hHeld => ?_)
                clear hK Kp
                (try simp only [Act.put, List.getElem_toArray, List.getElem_cons_succ, List.getElem_cons_zero, List.setIfInBounds_toArray, List.set_cons_zero, List.set_cons_succ])
                refine wpAnyH_done (by kernel_rfl) ?_ _
                clear hHeld
                go_wp2
                go_roundw
                case rel =>
                  refine ⟨_, _, _, _, _, _, _, _, _, _, _, _, _, _, _, _, _, _, _, _, _, ⟨4, ?_, by omega, by omega, K7.out.put o _⟩, rfl⟩
                  first | rfl | go_num
                case measure => simp [intOf]
          · obtain rfl : k = 4 := by omega
            clear hk1 hk4 h5
            obtain ⟨x0, x1, x2⟩ := hX.box.f3
            have hzO := hX.tf.size
            have hnX : ¬ X = w3.heap.size := by omega
            have hnX2 : ¬ w3.heap.size = X := by omega
            obtain ⟨y0, q0⟩ := Option.isSome_iff_exists.1 (hX.tf.room 0 (by omega)).1
            have fq0 := (hX.tf.room 0 (by omega)).2
            obtain ⟨y1, q1⟩ := Option.isSome_iff_exists.1 (hX.tf.room 1 (by omega)).1
            have fq1 := (hX.tf.room 1 (by omega)).2
            obtain ⟨y2, q2⟩ := Option.isSome_iff_exists.1 (hX.tf.room 2 (by omega)).1
            have fq2 := (hX.tf.room 2 (by omega)).2
            have HT := Lib.hid (hX.tf.put o (by omega))
            clear hX
            go_wp2
            go_roundw
            case rel => exact ⟨1, by first | rfl | go_num, HT.out⟩
            case measure => simp [intOf]
      · skip
        have e0 : fTimes (t.get 4) (v.get 0) = (Ac 1 1, true) := h0 1 (by omega)
        have W0 : IntKind.i64.wrap 4 = 4 := by decide
        go_upto_region 6 with fail
        go_cut [9] (fun s9 wx => ∃ X : Nat, s9 = .pointer (some ⟨X, 0, none⟩) ∧ TX w (w.heap.size) (w.heap.size + 1) (w.heap.size + 1 + 1) (w.heap.size + 1 + 1 + 1) w3.heap.size t.get v.get (fun j => Ac j 4) 1 X (Ac 1 1) wx)
        case first =>
          have K0 := Lib.hid hT.drew
          refine wp_region_held_drew (S := (fun w' => (w'.cell? ⟨w.heap.size, 12, none⟩ = some (.int .i64 (t.get 4).re) ∧ w'.cell? ⟨w.heap.size, 13, none⟩ = some (.int .i64 (t.get 4).im) ∧ w'.cell? ⟨w.heap.size, 14, none⟩ = some (.int .i64 (t.get 4).den)) ∧ (w'.cell? ⟨w.heap.size + 1, 0, none⟩ = some (.int .i64 (v.get 0).re) ∧ w'.cell? ⟨w.heap.size + 1, 1, none⟩ = some (.int .i64 (v.get 0).im) ∧ w'.cell? ⟨w.heap.size + 1, 2, none⟩ = some (.int .i64 (v.get 0).den)))) (by kernel_rfl) (show _ from ⟨⟨(K0.out.one 4 (by omega)).1, (K0.out.one 4 (by omega)).2.1, (K0.out.one 4 (by omega)).2.2⟩, ⟨(K0.out.two 0 (by omega)).1, (K0.out.two 0 (by omega)).2.1, (K0.out.two 0 (by omega)).2.2⟩⟩) (fun hHeld => ?_)
          refine wpAnyH_take (i := 0) (v := ?_) rfl (by kernel_rfl) (by kernel_rfl) (by kernel_rfl) (fun _ _ _ h => h) (Or.inl ⟨by rfl, ?_⟩) (by assumption) ?_
          rotate_left
          (focus (intro w hSw; (try dsimp only at hSw); go_simp; (try with_reducible rfl)))
          (try simp only [Act.put, List.getElem_toArray, List.getElem_cons_zero, List.setIfInBounds_toArray, List.set_cons_zero, List.set_cons_succ])
          refine wpAnyH_take (i := 1) (v := ?_) rfl (by kernel_rfl) (by kernel_rfl) (by kernel_rfl) (fun _ _ _ h => h) (Or.inl ⟨by rfl, ?_⟩) (by assumption) ?_
          rotate_left
          (focus (intro w hSw; (try dsimp only at hSw); go_simp; (try with_reducible rfl)))
          (try simp only [Act.put, List.getElem_toArray, List.getElem_cons_succ, List.getElem_cons_zero, List.setIfInBounds_toArray, List.set_cons_zero, List.set_cons_succ])
          refine wpAnyH_take (i := 2) (v := ?_) rfl (by kernel_rfl) (by kernel_rfl) (by kernel_rfl) (fun _ _ _ h => h) (Or.inl ⟨by rfl, ?_⟩) (by assumption) ?_
          rotate_left
          (focus (intro w hSw; (try dsimp only at hSw); go_simp; (try with_reducible rfl)))
          (try simp only [Act.put, List.getElem_toArray, List.getElem_cons_succ, List.getElem_cons_zero, List.setIfInBounds_toArray, List.set_cons_zero, List.set_cons_succ])
          refine wpAnyH_take (i := 3) (v := ?_) rfl (by kernel_rfl) (by kernel_rfl) (by kernel_rfl) (fun _ _ _ h => h) (Or.inl ⟨by rfl, ?_⟩) (by assumption) ?_
          rotate_left
          (focus (intro w hSw; (try dsimp only at hSw); go_simp; (try with_reducible rfl)))
          (try simp only [Act.put, List.getElem_toArray, List.getElem_cons_succ, List.getElem_cons_zero, List.setIfInBounds_toArray, List.set_cons_zero, List.set_cons_succ])
          refine wpAnyH_take (i := 4) (v := ?_) rfl (by kernel_rfl) (by kernel_rfl) (by kernel_rfl) (fun _ _ _ h => h) (Or.inl ⟨by rfl, ?_⟩) (by assumption) ?_
          rotate_left
          (focus (intro w hSw; (try dsimp only at hSw); go_simp; (try with_reducible rfl)))
          (try simp only [Act.put, List.getElem_toArray, List.getElem_cons_succ, List.getElem_cons_zero, List.setIfInBounds_toArray, List.set_cons_zero, List.set_cons_succ])
          refine wpAnyH_take (i := 5) (v := ?_) rfl (by kernel_rfl) (by kernel_rfl) (by kernel_rfl) (fun _ _ _ h => h) (Or.inl ⟨by rfl, ?_⟩) (by assumption) ?_
          rotate_left
          (focus (intro w hSw; (try dsimp only at hSw); go_simp; (try with_reducible rfl)))
          (try simp only [Act.put, List.getElem_toArray, List.getElem_cons_succ, List.getElem_cons_zero, List.setIfInBounds_toArray, List.set_cons_zero, List.set_cons_succ])
          refine wpAnyH_take (i := 6) (v := ?_) rfl (by kernel_rfl) (by kernel_rfl) (by kernel_rfl) (fun _ _ _ h => h) (Or.inl ⟨by rfl, ?_⟩) (by assumption) ?_
          rotate_left
          (focus (intro w hSw; (try dsimp only at hSw); go_simp; (try with_reducible rfl)))
          (try simp only [Act.put, List.getElem_toArray, List.getElem_cons_succ, List.getElem_cons_zero, List.setIfInBounds_toArray, List.set_cons_zero, List.set_cons_succ])
          refine wpAnyH_take (i := 7) (v := ?_) rfl (by kernel_rfl) (by kernel_rfl) (by kernel_rfl) (fun _ _ _ h => h) (Or.inl ⟨by rfl, ?_⟩) (by assumption) ?_
          rotate_left
          (focus (intro w hSw; (try dsimp only at hSw); go_simp; (try with_reducible rfl)))
          (try simp only [Act.put, List.getElem_toArray, List.getElem_cons_succ, List.getElem_cons_zero, List.setIfInBounds_toArray, List.set_cons_zero, List.set_cons_succ])
          refine wpAnyH_take (i := 8) (v := ?_) rfl (by kernel_rfl) (by kernel_rfl) (by kernel_rfl) (fun _ _ _ h => h) (Or.inl ⟨by rfl, ?_⟩) (by assumption) ?_
          rotate_left
          (focus (intro w hSw; (try dsimp only at hSw); go_simp; (try with_reducible rfl)))
          (try simp only [Act.put, List.getElem_toArray, List.getElem_cons_succ, List.getElem_cons_zero, List.setIfInBounds_toArray, List.set_cons_zero, List.set_cons_succ])
          refine wpAnyH_ready (rs := [9, 10]) (by kernel_rfl) (by simp) ?_
          refine AllReadyH.cons rfl (fun Kp hK => ?_) (AllReadyH.cons rfl (fun Kp hK => ?_) AllReadyH.nil)
          · skip
            go_simp
            go_at_call 80
            (with_reducible refine (stimes_any (w.heap.size + 1 + 1 + 1) false (t.get 4) (v.get 0) _ (by have := K0.out.size; have := o.hP; omega) K0.out.cell K0.out.free).mono ?_)
            rintro e w5 ho
            rw [e0] at ho
            obtain ⟨rfl, hs⟩ : e = .returned (.agg #[.int .i64 (Ac 1 1).re, .int .i64 (Ac 1 1).im, .int .i64 (Ac 1 1).den]) ∧ Sm (w.heap.size + 1 + 1 + 1) false _ _ := ho.fn
            have hzw5 := hs.size
            (try simp at hzw5)
            have K5 := Lib.hid (K0.out.sm o hs)
            clear ho hs
            refine hK.out _ _ (show _ from ⟨⟨(K5.out.one 4 (by omega)).1, (K5.out.one 4 (by omega)).2.1, (K5.out.one 4 (by omega)).2.2⟩, ⟨(K5.out.two 0 (by omega)).1, (K5.out.two 0 (by omega)).2.1, (K5.out.two 0 (by omega)).2.2⟩⟩) (fun hHeld => ?_)
            clear hK Kp
            (try simp only [Act.put, List.getElem_toArray, List.getElem_cons_succ, List.getElem_cons_zero, List.setIfInBounds_toArray, List.set_cons_zero, List.set_cons_succ])
            refine wpAnyH_ready (rs := [10]) (by kernel_rfl) (by simp) ?_
            refine AllReadyH.cons rfl (fun Kp hK => ?_) AllReadyH.nil
            go_simp
            refine hK.out _ _ (show _ from ⟨⟨((K5.out.alloc o _).one 4 (by omega)).1, ((K5.out.alloc o _).one 4 (by omega)).2.1, ((K5.out.alloc o _).one 4 (by omega)).2.2⟩, ⟨((K5.out.alloc o _).two 0 (by omega)).1, ((K5.out.alloc o _).two 0 (by omega)).2.1, ((K5.out.alloc o _).two 0 (by omega)).2.2⟩⟩) (fun hHeld => ?_)
            clear hK Kp
            (try simp only [Act.put, List.getElem_toArray, List.getElem_cons_succ, List.getElem_cons_zero, List.setIfInBounds_toArray, List.set_cons_zero, List.set_cons_succ])
            refine wpAnyH_ready (rs := [11]) (by kernel_rfl) (by simp) ?_
            refine AllReadyH.cons rfl (fun Kp hK => ?_) AllReadyH.nil
            go_simp
            refine hK.out _ _ (show _ from ⟨⟨((K5.out.alloc o _).one 4 (by omega)).1, ((K5.out.alloc o _).one 4 (by omega)).2.1, ((K5.out.alloc o _).one 4 (by omega)).2.2⟩, ⟨((K5.out.alloc o _).two 0 (by omega)).1, ((K5.out.alloc o _).two 0 (by omega)).2.1, ((K5.out.alloc o _).two 0 (by omega)).2.2⟩⟩) (fun hHeld => ?_)
            clear hK Kp
            (try simp only [Act.put, List.getElem_toArray, List.getElem_cons_succ, List.getElem_cons_zero, List.setIfInBounds_toArray, List.set_cons_zero, List.set_cons_succ])
            refine wpAnyH_done (by kernel_rfl) ?_ _
            clear hHeld
            go_wp2_with fail
            go_meet
            exact ⟨w5.heap.size, rfl, K5.out.alloc o _, K5.out.size, by simp, Room.new' rfl rfl, boxN rfl⟩
          · skip
            have KA := Lib.hid (hT.alloc o (.cells #[.int .i64 0, .int .i64 0, .int .i64 0] 23)).drew
            go_simp
            refine hK.out _ _ (show _ from ⟨⟨(KA.out.one 4 (by omega)).1, (KA.out.one 4 (by omega)).2.1, (KA.out.one 4 (by omega)).2.2⟩, ⟨(KA.out.two 0 (by omega)).1, (KA.out.two 0 (by omega)).2.1, (KA.out.two 0 (by omega)).2.2⟩⟩) (fun hHeld => ?_)
            clear hK Kp
            (try simp only [Act.put, List.getElem_toArray, List.getElem_cons_succ, List.getElem_cons_zero, List.setIfInBounds_toArray, List.set_cons_zero, List.set_cons_succ])
            refine wpAnyH_ready (rs := [9]) (by kernel_rfl) (by simp) ?_
            refine AllReadyH.cons rfl (fun Kp hK => ?_) AllReadyH.nil
            go_simp
            go_at_call 80
            (with_reducible refine (stimes_any (w.heap.size + 1 + 1 + 1) false (t.get 4) (v.get 0) _ (by have := KA.out.size; have := o.hP; omega) KA.out.cell KA.out.free).mono ?_)
            rintro e w5 ho
            rw [e0] at ho
            obtain ⟨rfl, hs⟩ : e = .returned (.agg #[.int .i64 (Ac 1 1).re, .int .i64 (Ac 1 1).im, .int .i64 (Ac 1 1).den]) ∧ Sm (w.heap.size + 1 + 1 + 1) false _ _ := ho.fn
            have hzw5 := hs.size
            (try simp at hzw5)
            have RD := Lib.hid ((show Room (World.drew (wr.alloc (.cells #[.int .i64 0, .int .i64 0, .int .i64 0] 23))) wr.heap.size 1 from Room.new' rfl rfl).sm hs (by show wr.heap.size < _; simp) (by have := hT.size; have := o.hP; omega))
            have K5 := Lib.hid (KA.out.sm o hs)
            clear ho hs
            refine hK.out _ _ (show _ from ⟨⟨(K5.out.one 4 (by omega)).1, (K5.out.one 4 (by omega)).2.1, (K5.out.one 4 (by omega)).2.2⟩, ⟨(K5.out.two 0 (by omega)).1, (K5.out.two 0 (by omega)).2.1, (K5.out.two 0 (by omega)).2.2⟩⟩) (fun hHeld => ?_)
            clear hK Kp
            (try simp only [Act.put, List.getElem_toArray, List.getElem_cons_succ, List.getElem_cons_zero, List.setIfInBounds_toArray, List.set_cons_zero, List.set_cons_succ])
            obtain ⟨y0, q0⟩ := Option.isSome_iff_exists.1 (RD.out 0 (by omega)).1
            have fq0 := (RD.out 0 (by omega)).2
            obtain ⟨y1, q1⟩ := Option.isSome_iff_exists.1 (RD.out 1 (by omega)).1
            have fq1 := (RD.out 1 (by omega)).2
            obtain ⟨y2, q2⟩ := Option.isSome_iff_exists.1 (RD.out 2 (by omega)).1
            have fq2 := (RD.out 2 (by omega)).2
            refine wpAnyH_ready (rs := [11]) (by kernel_rfl) (by simp) ?_
            refine AllReadyH.cons rfl (fun Kp hK => ?_) AllReadyH.nil
            go_simp
            refine hK.out _ _ (show _ from ⟨⟨((((K5.out.far o (D := wr.heap.size) hT.size 0 _).far o hT.size 1 _).far o hT.size 2 _).one 4 (by omega)).1, ((((K5.out.far o (D := wr.heap.size) hT.size 0 _).far o hT.size 1 _).far o hT.size 2 _).one 4 (by omega)).2.1, ((((K5.out.far o (D := wr.heap.size) hT.size 0 _).far o hT.size 1 _).far o hT.size 2 _).one 4 (by omega)).2.2⟩, ⟨((((K5.out.far o (D := wr.heap.size) hT.size 0 _).far o hT.size 1 _).far o hT.size 2 _).two 0 (by omega)).1, ((((K5.out.far o (D := wr.heap.size) hT.size 0 _).far o hT.size 1 _).far o hT.size 2 _).two 0 (by omega)).2.1, ((((K5.out.far o (D := wr.heap.size) hT.size 0 _).far o hT.size 1 _).far o hT.size 2 _).two 0 (by omega)).2.2⟩⟩) (fun hHeld => ?_)
            clear hK Kp
            (try simp only [Act.put, List.getElem_toArray, List.getElem_cons_succ, List.getElem_cons_zero, List.setIfInBounds_toArray, List.set_cons_zero, List.set_cons_succ])
            refine wpAnyH_done (by kernel_rfl) ?_ _
            clear hHeld
            go_wp2_with fail
            go_meet
            exact ⟨wr.heap.size, rfl, ((K5.out.far o (D := wr.heap.size) hT.size 0 _).far o hT.size 1 _).far o hT.size 2 _, hT.size, by simp; omega, RD.out.put wr.heap.size 0 _, box1 RD.out⟩
        case rest =>
        obtain ⟨X, rfl, hX⟩ := hcut
        clear hT e0
        obtain ⟨U, hU⟩ : ∃ U, U = wc := ⟨_, rfl⟩
        rw [← hU] at hX
        rw [← hU]
        clear hU
        have hX1 := hX.lo
        have hX2 := hX.hi
        go_wp2
        go_loopw [10] (fun i wy => ∃ k : Nat, i = .int .i64 k ∧ 1 ≤ k ∧ k ≤ 4 ∧ TX w (w.heap.size) (w.heap.size + 1) (w.heap.size + 1 + 1) (w.heap.size + 1 + 1 + 1) w3.heap.size t.get v.get (fun j => Ac j 4) 1 X (Ac 1 k) wy) (fun i _ => (4 - intOf i).toNat)
        case atStart => exact ⟨1, rfl, by omega, by omega, hX⟩
        case round =>
          clear hX hX2
          obtain ⟨k, rfl, hk1, hk4, hX⟩ := hrel
          have hX2 := hX.hi
          by_cases h5 : k < 4
          · have hk : k = 1 ∨ k = 2 ∨ k = 3 := by omega
            clear hk1 hk4 h5
            rcases hk with rfl | rfl | rfl
            · skip
              have e1 : fTimes (t.get 5) (v.get 1) = (Pd 1 1, true) := hp 1 1 (by omega) (by omega) (by omega)
              have e2 : fAdd (Ac 1 1) (Pd 1 1) = (Ac 1 2, true) := ha 1 1 (by omega) (by omega) (by omega)
              have W4 : IntKind.i64.wrap 4 = 4 := by decide
              have W5 : IntKind.i64.wrap 5 = 5 := by decide
              go_upto_region 10 with fail
              have K0 := Lib.hid hX.drew
              obtain ⟨x0, x1, x2⟩ := (show BoxAt (World.drew _) X (fun _ => Ac 1 1) 1 from K0.out.box).f3
              refine wp_region_held_drew (S := (fun w' => (w'.cell? ⟨w.heap.size, 15, none⟩ = some (.int .i64 (t.get 5).re) ∧ w'.cell? ⟨w.heap.size, 16, none⟩ = some (.int .i64 (t.get 5).im) ∧ w'.cell? ⟨w.heap.size, 17, none⟩ = some (.int .i64 (t.get 5).den)) ∧ (w'.cell? ⟨w.heap.size + 1, 3, none⟩ = some (.int .i64 (v.get 1).re) ∧ w'.cell? ⟨w.heap.size + 1, 4, none⟩ = some (.int .i64 (v.get 1).im) ∧ w'.cell? ⟨w.heap.size + 1, 5, none⟩ = some (.int .i64 (v.get 1).den)))) (by kernel_rfl) (show _ from ⟨⟨(K0.out.tf.one 5 (by omega)).1, (K0.out.tf.one 5 (by omega)).2.1, (K0.out.tf.one 5 (by omega)).2.2⟩, ⟨(K0.out.tf.two 1 (by omega)).1, (K0.out.tf.two 1 (by omega)).2.1, (K0.out.tf.two 1 (by omega)).2.2⟩⟩) (fun hHeld => ?_)
              refine wpAnyH_take (i := 0) (v := ?_) rfl (by kernel_rfl) (by kernel_rfl) (by kernel_rfl) (fun _ _ _ h => h) (Or.inl ⟨by rfl, ?_⟩) (by assumption) ?_
              rotate_left
              (focus (intro w hSw; (try dsimp only at hSw); go_simp; (try with_reducible rfl)))
              (try simp only [Act.put, List.getElem_toArray, List.getElem_cons_zero, List.setIfInBounds_toArray, List.set_cons_zero, List.set_cons_succ])
              refine wpAnyH_take (i := 2) (v := ?_) rfl (by kernel_rfl) (by kernel_rfl) (by kernel_rfl) (fun _ _ _ h => h) (Or.inl ⟨by rfl, ?_⟩) (by assumption) ?_
              rotate_left
              (focus (intro w hSw; (try dsimp only at hSw); go_simp; (try with_reducible rfl)))
              (try simp only [Act.put, List.getElem_toArray, List.getElem_cons_succ, List.getElem_cons_zero, List.setIfInBounds_toArray, List.set_cons_zero, List.set_cons_succ])
              refine wpAnyH_take (i := 3) (v := ?_) rfl (by kernel_rfl) (by kernel_rfl) (by kernel_rfl) (fun _ _ _ h => h) (Or.inl ⟨by rfl, ?_⟩) (by assumption) ?_
              rotate_left
              (focus (intro w hSw; (try dsimp only at hSw); go_simp; (try with_reducible rfl)))
              (try simp only [Act.put, List.getElem_toArray, List.getElem_cons_succ, List.getElem_cons_zero, List.setIfInBounds_toArray, List.set_cons_zero, List.set_cons_succ])
              refine wpAnyH_take (i := 4) (v := ?_) rfl (by kernel_rfl) (by kernel_rfl) (by kernel_rfl) (fun _ _ _ h => h) (Or.inl ⟨by rfl, ?_⟩) (by assumption) ?_
              rotate_left
              (focus (intro w hSw; (try dsimp only at hSw); go_simp; (try with_reducible rfl)))
              (try simp only [Act.put, List.getElem_toArray, List.getElem_cons_succ, List.getElem_cons_zero, List.setIfInBounds_toArray, List.set_cons_zero, List.set_cons_succ])
              refine wpAnyH_take (i := 5) (v := ?_) rfl (by kernel_rfl) (by kernel_rfl) (by kernel_rfl) (fun _ _ _ h => h) (Or.inl ⟨by rfl, ?_⟩) (by assumption) ?_
              rotate_left
              (focus (intro w hSw; (try dsimp only at hSw); go_simp; (try with_reducible rfl)))
              (try simp only [Act.put, List.getElem_toArray, List.getElem_cons_succ, List.getElem_cons_zero, List.setIfInBounds_toArray, List.set_cons_zero, List.set_cons_succ])
              refine wpAnyH_take (i := 6) (v := ?_) rfl (by kernel_rfl) (by kernel_rfl) (by kernel_rfl) (fun _ _ _ h => h) (Or.inl ⟨by rfl, ?_⟩) (by assumption) ?_
              rotate_left
              (focus (intro w hSw; (try dsimp only at hSw); go_simp; (try with_reducible rfl)))
              (try simp only [Act.put, List.getElem_toArray, List.getElem_cons_succ, List.getElem_cons_zero, List.setIfInBounds_toArray, List.set_cons_zero, List.set_cons_succ])
              refine wpAnyH_take (i := 7) (v := ?_) rfl (by kernel_rfl) (by kernel_rfl) (by kernel_rfl) (fun _ _ _ h => h) (Or.inl ⟨by rfl, ?_⟩) (by assumption) ?_
              rotate_left
              (focus (intro w hSw; (try dsimp only at hSw); go_simp; (try with_reducible rfl)))
              (try simp only [Act.put, List.getElem_toArray, List.getElem_cons_succ, List.getElem_cons_zero, List.setIfInBounds_toArray, List.set_cons_zero, List.set_cons_succ])
              refine wpAnyH_take (i := 8) (v := ?_) rfl (by kernel_rfl) (by kernel_rfl) (by kernel_rfl) (fun _ _ _ h => h) (Or.inl ⟨by rfl, ?_⟩) (by assumption) ?_
              rotate_left
              (focus (intro w hSw; (try dsimp only at hSw); go_simp; (try with_reducible rfl)))
              (try simp only [Act.put, List.getElem_toArray, List.getElem_cons_succ, List.getElem_cons_zero, List.setIfInBounds_toArray, List.set_cons_zero, List.set_cons_succ])
              refine wpAnyH_take (i := 9) (v := ?_) rfl (by kernel_rfl) (by kernel_rfl) (by kernel_rfl) (fun _ _ _ h => h) (Or.inl ⟨by rfl, ?_⟩) (by assumption) ?_
              rotate_left
              (focus (intro w hSw; (try dsimp only at hSw); go_simp; (try with_reducible rfl)))
              (try simp only [Act.put, List.getElem_toArray, List.getElem_cons_succ, List.getElem_cons_zero, List.setIfInBounds_toArray, List.set_cons_zero, List.set_cons_succ])
              refine wpAnyH_take (i := 10) (v := ?_) rfl (by kernel_rfl) (by kernel_rfl) (by kernel_rfl) (fun _ _ _ h => h) (Or.inl ⟨by rfl, ?_⟩) (by assumption) ?_
              rotate_left
              (focus (intro w hSw; (try dsimp only at hSw); go_simp; (try with_reducible rfl)))
              (try simp only [Act.put, List.getElem_toArray, List.getElem_cons_succ, List.getElem_cons_zero, List.setIfInBounds_toArray, List.set_cons_zero, List.set_cons_succ])
              refine wpAnyH_take (i := 11) (v := ?_) rfl (by kernel_rfl) (by kernel_rfl) (by kernel_rfl) (fun _ _ _ h => h) (Or.inl ⟨by rfl, ?_⟩) (by assumption) ?_
              rotate_left
              (focus (intro w hSw; (try dsimp only at hSw); go_simp; (try with_reducible rfl)))
              (try simp only [Act.put, List.getElem_toArray, List.getElem_cons_succ, List.getElem_cons_zero, List.setIfInBounds_toArray, List.set_cons_zero, List.set_cons_succ])
              refine wpAnyH_take (i := 12) (v := ?_) rfl (by kernel_rfl) (by kernel_rfl) (by kernel_rfl) (fun _ _ _ h => h) (Or.inl ⟨by rfl, ?_⟩) (by assumption) ?_
              rotate_left
              (focus (intro w hSw; (try dsimp only at hSw); go_simp; (try with_reducible rfl)))
              (try simp only [Act.put, List.getElem_toArray, List.getElem_cons_succ, List.getElem_cons_zero, List.setIfInBounds_toArray, List.set_cons_zero, List.set_cons_succ])
              refine wpAnyH_take (i := 13) (v := ?_) rfl (by kernel_rfl) (by kernel_rfl) (by kernel_rfl) (fun _ _ _ h => h) (Or.inl ⟨by rfl, ?_⟩) (by assumption) ?_
              rotate_left
              (focus (intro w hSw; (try dsimp only at hSw); go_simp; (try with_reducible rfl)))
              (try simp only [Act.put, List.getElem_toArray, List.getElem_cons_succ, List.getElem_cons_zero, List.setIfInBounds_toArray, List.set_cons_zero, List.set_cons_succ])
              refine wpAnyH_ready (rs := [1, 14]) (by kernel_rfl) (by simp) ?_
              refine AllReadyH.cons rfl (fun Kp hK => ?_) (AllReadyH.cons rfl (fun Kp hK => ?_) AllReadyH.nil)
              · skip
                go_simp
                refine hK.out _ _ (show _ from ⟨⟨(K0.out.tf.one 5 (by omega)).1, (K0.out.tf.one 5 (by omega)).2.1, (K0.out.tf.one 5 (by omega)).2.2⟩, ⟨(K0.out.tf.two 1 (by omega)).1, (K0.out.tf.two 1 (by omega)).2.1, (K0.out.tf.two 1 (by omega)).2.2⟩⟩) (fun hHeld => ?_)
                clear hK Kp
                (try simp only [Act.put, List.getElem_toArray, List.getElem_cons_succ, List.getElem_cons_zero, List.setIfInBounds_toArray, List.set_cons_zero, List.set_cons_succ])
                refine wpAnyH_ready (rs := [14]) (by kernel_rfl) (by simp) ?_
                refine AllReadyH.cons rfl (fun Kp hK => ?_) AllReadyH.nil
                go_simp
                go_at_call 80
                (with_reducible refine (stimes_any (w.heap.size + 1 + 1 + 1) false (t.get 5) (v.get 1) _ (by have := K0.out.tf.size; have := o.hP; omega) K0.out.tf.cell K0.out.tf.free).mono ?_)
                rintro e w6 ho
                rw [e1] at ho
                obtain ⟨rfl, hs⟩ : e = .returned (.agg #[.int .i64 (Pd 1 1).re, .int .i64 (Pd 1 1).im, .int .i64 (Pd 1 1).den]) ∧ Sm (w.heap.size + 1 + 1 + 1) false _ _ := ho.fn
                have hzw6 := hs.size
                (try simp at hzw6)
                have K6 := Lib.hid (K0.out.sm o hs)
                clear ho hs
                refine hK.out _ _ (show _ from ⟨⟨(K6.out.tf.one 5 (by omega)).1, (K6.out.tf.one 5 (by omega)).2.1, (K6.out.tf.one 5 (by omega)).2.2⟩, ⟨(K6.out.tf.two 1 (by omega)).1, (K6.out.tf.two 1 (by omega)).2.1, (K6.out.tf.two 1 (by omega)).2.2⟩⟩) (fun hHeld => ?_)
                clear hK Kp
                (try simp only [Act.put, List.getElem_toArray, List.getElem_cons_succ, List.getElem_cons_zero, List.setIfInBounds_toArray, List.set_cons_zero, List.set_cons_succ])
                refine wpAnyH_ready (rs := [15]) (by kernel_rfl) (by simp) ?_
                refine AllReadyH.cons rfl (fun Kp hK => ?_) AllReadyH.nil
                go_simp
                go_at_call 77
                (with_reducible refine (sadd_any (w.heap.size + 1 + 1 + 1) false (Ac 1 1) (Pd 1 1) _ (by have := K6.out.tf.size; have := o.hP; omega) K6.out.tf.cell K6.out.tf.free).mono ?_)
                rintro e w7 ho
                rw [e2] at ho
                obtain ⟨rfl, hs⟩ : e = .returned (.agg #[.int .i64 (Ac 1 2).re, .int .i64 (Ac 1 2).im, .int .i64 (Ac 1 2).den]) ∧ Sm (w.heap.size + 1 + 1 + 1) false _ _ := ho.fn
                have hzw7 := hs.size
                (try simp at hzw7)
                have K7 := Lib.hid (K6.out.sm o hs)
                clear ho hs
                refine hK.out _ _ (show _ from ⟨⟨(K7.out.tf.one 5 (by omega)).1, (K7.out.tf.one 5 (by omega)).2.1, (K7.out.tf.one 5 (by omega)).2.2⟩, ⟨(K7.out.tf.two 1 (by omega)).1, (K7.out.tf.two 1 (by omega)).2.1, (K7.out.tf.two 1 (by omega)).2.2⟩⟩) (fun hHeld => ?_)
                clear hK Kp
                (try simp only [Act.put, List.getElem_toArray, List.getElem_cons_succ, List.getElem_cons_zero, List.setIfInBounds_toArray, List.set_cons_zero, List.set_cons_succ])
                obtain ⟨y0, q0⟩ := Option.isSome_iff_exists.1 (K7.out.room 0 (by omega)).1
                have fq0 := (K7.out.room 0 (by omega)).2
                obtain ⟨y1, q1⟩ := Option.isSome_iff_exists.1 (K7.out.room 1 (by omega)).1
                have fq1 := (K7.out.room 1 (by omega)).2
                obtain ⟨y2, q2⟩ := Option.isSome_iff_exists.1 (K7.out.room 2 (by omega)).1
                have fq2 := (K7.out.room 2 (by omega)).2
                refine wpAnyH_ready (rs := [16]) (by kernel_rfl) (by simp) ?_
                refine AllReadyH.cons rfl (fun Kp hK => ?_) AllReadyH.nil
                go_simp
                refine hK.out _ _ (show _ from ⟨⟨((K7.out.put o (Ac 1 2)).tf.one 5 (by omega)).1, ((K7.out.put o (Ac 1 2)).tf.one 5 (by omega)).2.1, ((K7.out.put o (Ac 1 2)).tf.one 5 (by omega)).2.2⟩, ⟨((K7.out.put o (Ac 1 2)).tf.two 1 (by omega)).1, ((K7.out.put o (Ac 1 2)).tf.two 1 (by omega)).2.1, ((K7.out.put o (Ac 1 2)).tf.two 1 (by omega)).2.2⟩⟩) (fun hHeld => ?_)
                clear hK Kp
                (try simp only [Act.put, List.getElem_toArray, List.getElem_cons_succ, List.getElem_cons_zero, List.setIfInBounds_toArray, List.set_cons_zero, List.set_cons_succ])
                refine wpAnyH_done (by kernel_rfl) ?_ _
                clear hHeld
                go_wp2
                go_roundw
                case rel =>
                  refine ⟨_, _, _, _, _, _, _, _, _, _, _, _, _, _, _, _, _, _, _, _, _, ⟨2, ?_, by omega, by omega, K7.out.put o _⟩, rfl⟩
                  first | rfl | go_num
                case measure => simp [intOf]
              · skip
                go_simp
                go_at_call 80
                (with_reducible refine (stimes_any (w.heap.size + 1 + 1 + 1) false (t.get 5) (v.get 1) _ (by have := K0.out.tf.size; have := o.hP; omega) K0.out.tf.cell K0.out.tf.free).mono ?_)
                rintro e w6 ho
                rw [e1] at ho
                obtain ⟨rfl, hs⟩ : e = .returned (.agg #[.int .i64 (Pd 1 1).re, .int .i64 (Pd 1 1).im, .int .i64 (Pd 1 1).den]) ∧ Sm (w.heap.size + 1 + 1 + 1) false _ _ := ho.fn
                have hzw6 := hs.size
                (try simp at hzw6)
                have K6 := Lib.hid (K0.out.sm o hs)
                clear ho hs
                obtain ⟨u0, u1, u2⟩ := K6.out.box.f3
                refine hK.out _ _ (show _ from ⟨⟨(K6.out.tf.one 5 (by omega)).1, (K6.out.tf.one 5 (by omega)).2.1, (K6.out.tf.one 5 (by omega)).2.2⟩, ⟨(K6.out.tf.two 1 (by omega)).1, (K6.out.tf.two 1 (by omega)).2.1, (K6.out.tf.two 1 (by omega)).2.2⟩⟩) (fun hHeld => ?_)
                clear hK Kp
                (try simp only [Act.put, List.getElem_toArray, List.getElem_cons_succ, List.getElem_cons_zero, List.setIfInBounds_toArray, List.set_cons_zero, List.set_cons_succ])
                refine wpAnyH_ready (rs := [1]) (by kernel_rfl) (by simp) ?_
                refine AllReadyH.cons rfl (fun Kp hK => ?_) AllReadyH.nil
                go_simp
                refine hK.out _ _ (show _ from ⟨⟨(K6.out.tf.one 5 (by omega)).1, (K6.out.tf.one 5 (by omega)).2.1, (K6.out.tf.one 5 (by omega)).2.2⟩, ⟨(K6.out.tf.two 1 (by omega)).1, (K6.out.tf.two 1 (by omega)).2.1, (K6.out.tf.two 1 (by omega)).2.2⟩⟩) (fun hHeld => ?_)
                clear hK Kp
                (try simp only [Act.put, List.getElem_toArray, List.getElem_cons_succ, List.getElem_cons_zero, List.setIfInBounds_toArray, List.set_cons_zero, List.set_cons_succ])
                refine wpAnyH_ready (rs := [15]) (by kernel_rfl) (by simp) ?_
                refine AllReadyH.cons rfl (fun Kp hK => ?_) AllReadyH.nil
                go_simp
                go_at_call 77
                (with_reducible refine (sadd_any (w.heap.size + 1 + 1 + 1) false (Ac 1 1) (Pd 1 1) _ (by have := K6.out.tf.size; have := o.hP; omega) K6.out.tf.cell K6.out.tf.free).mono ?_)
                rintro e w7 ho
                rw [e2] at ho
                obtain ⟨rfl, hs⟩ : e = .returned (.agg #[.int .i64 (Ac 1 2).re, .int .i64 (Ac 1 2).im, .int .i64 (Ac 1 2).den]) ∧ Sm (w.heap.size + 1 + 1 + 1) false _ _ := ho.fn
                have hzw7 := hs.size
                (try simp at hzw7)
                have K7 := Lib.hid (K6.out.sm o hs)
                clear ho hs
                refine hK.out _ _ (show _ from ⟨⟨(K7.out.tf.one 5 (by omega)).1, (K7.out.tf.one 5 (by omega)).2.1, (K7.out.tf.one 5 (by omega)).2.2⟩, ⟨(K7.out.tf.two 1 (by omega)).1, (K7.out.tf.two 1 (by omega)).2.1, (K7.out.tf.two 1 (by omega)).2.2⟩⟩) (fun hHeld => ?_)
                clear hK Kp
                (try simp only [Act.put, List.getElem_toArray, List.getElem_cons_succ, List.getElem_cons_zero, List.setIfInBounds_toArray, List.set_cons_zero, List.set_cons_succ])
                obtain ⟨y0, q0⟩ := Option.isSome_iff_exists.1 (K7.out.room 0 (by omega)).1
                have fq0 := (K7.out.room 0 (by omega)).2
                obtain ⟨y1, q1⟩ := Option.isSome_iff_exists.1 (K7.out.room 1 (by omega)).1
                have fq1 := (K7.out.room 1 (by omega)).2
                obtain ⟨y2, q2⟩ := Option.isSome_iff_exists.1 (K7.out.room 2 (by omega)).1
                have fq2 := (K7.out.room 2 (by omega)).2
                refine wpAnyH_ready (rs := [16]) (by kernel_rfl) (by simp) ?_
                refine AllReadyH.cons rfl (fun Kp hK => ?_) AllReadyH.nil
                go_simp
                refine hK.out _ _ (show _ from ⟨⟨((K7.out.put o (Ac 1 2)).tf.one 5 (by omega)).1, ((K7.out.put o (Ac 1 2)).tf.one 5 (by omega)).2.1, ((K7.out.put o (Ac 1 2)).tf.one 5 (by omega)).2.2⟩, ⟨((K7.out.put o (Ac 1 2)).tf.two 1 (by omega)).1, ((K7.out.put o (Ac 1 2)).tf.two 1 (by omega)).2.1, ((K7.out.put o (Ac 1 2)).tf.two 1 (by omega)).2.2⟩⟩) (fun hHeld => ?_)
                clear hK Kp
                (try simp only [Act.put, List.getElem_toArray, List.getElem_cons_succ, List.getElem_cons_zero, List.setIfInBounds_toArray, List.set_cons_zero, List.set_cons_succ])
                refine wpAnyH_done (by kernel_rfl) ?_ _
                clear hHeld
                go_wp2
                go_roundw
                case rel =>
                  refine ⟨_, _, _, _, _, _, _, _, _, _, _, _, _, _, _, _, _, _, _, _, _, ⟨2, ?_, by omega, by omega, K7.out.put o _⟩, rfl⟩
                  first | rfl | go_num
                case measure => simp [intOf]
            · skip
              have e1 : fTimes (t.get 6) (v.get 2) = (Pd 1 2, true) := hp 1 2 (by omega) (by omega) (by omega)
              have e2 : fAdd (Ac 1 2) (Pd 1 2) = (Ac 1 3, true) := ha 1 2 (by omega) (by omega) (by omega)
              have W4 : IntKind.i64.wrap 4 = 4 := by decide
              have W5 : IntKind.i64.wrap 6 = 6 := by decide
              go_upto_region 10 with fail
              have K0 := Lib.hid hX.drew
              obtain ⟨x0, x1, x2⟩ := (show BoxAt (World.drew _) X (fun _ => Ac 1 2) 1 from K0.out.box).f3
              refine wp_region_held_drew (S := (fun w' => (w'.cell? ⟨w.heap.size, 18, none⟩ = some (.int .i64 (t.get 6).re) ∧ w'.cell? ⟨w.heap.size, 19, none⟩ = some (.int .i64 (t.get 6).im) ∧ w'.cell? ⟨w.heap.size, 20, none⟩ = some (.int .i64 (t.get 6).den)) ∧ (w'.cell? ⟨w.heap.size + 1, 6, none⟩ = some (.int .i64 (v.get 2).re) ∧ w'.cell? ⟨w.heap.size + 1, 7, none⟩ = some (.int .i64 (v.get 2).im) ∧ w'.cell? ⟨w.heap.size + 1, 8, none⟩ = some (.int .i64 (v.get 2).den)))) (by kernel_rfl) (show _ from ⟨⟨(K0.out.tf.one 6 (by omega)).1, (K0.out.tf.one 6 (by omega)).2.1, (K0.out.tf.one 6 (by omega)).2.2⟩, ⟨(K0.out.tf.two 2 (by omega)).1, (K0.out.tf.two 2 (by omega)).2.1, (K0.out.tf.two 2 (by omega)).2.2⟩⟩) (fun hHeld => ?_)
              refine wpAnyH_take (i := 0) (v := ?_) rfl (by kernel_rfl) (by kernel_rfl) (by kernel_rfl) (fun _ _ _ h => h) (Or.inl ⟨by rfl, ?_⟩) (by assumption) ?_
              rotate_left
              (focus (intro w hSw; (try dsimp only at hSw); go_simp; (try with_reducible rfl)))
              (try simp only [Act.put, List.getElem_toArray, List.getElem_cons_zero, List.setIfInBounds_toArray, List.set_cons_zero, List.set_cons_succ])
              refine wpAnyH_take (i := 2) (v := ?_) rfl (by kernel_rfl) (by kernel_rfl) (by kernel_rfl) (fun _ _ _ h => h) (Or.inl ⟨by rfl, ?_⟩) (by assumption) ?_
              rotate_left
              (focus (intro w hSw; (try dsimp only at hSw); go_simp; (try with_reducible rfl)))
              (try simp only [Act.put, List.getElem_toArray, List.getElem_cons_succ, List.getElem_cons_zero, List.setIfInBounds_toArray, List.set_cons_zero, List.set_cons_succ])
              refine wpAnyH_take (i := 3) (v := ?_) rfl (by kernel_rfl) (by kernel_rfl) (by kernel_rfl) (fun _ _ _ h => h) (Or.inl ⟨by rfl, ?_⟩) (by assumption) ?_
              rotate_left
              (focus (intro w hSw; (try dsimp only at hSw); go_simp; (try with_reducible rfl)))
              (try simp only [Act.put, List.getElem_toArray, List.getElem_cons_succ, List.getElem_cons_zero, List.setIfInBounds_toArray, List.set_cons_zero, List.set_cons_succ])
              refine wpAnyH_take (i := 4) (v := ?_) rfl (by kernel_rfl) (by kernel_rfl) (by kernel_rfl) (fun _ _ _ h => h) (Or.inl ⟨by rfl, ?_⟩) (by assumption) ?_
              rotate_left
              (focus (intro w hSw; (try dsimp only at hSw); go_simp; (try with_reducible rfl)))
              (try simp only [Act.put, List.getElem_toArray, List.getElem_cons_succ, List.getElem_cons_zero, List.setIfInBounds_toArray, List.set_cons_zero, List.set_cons_succ])
              refine wpAnyH_take (i := 5) (v := ?_) rfl (by kernel_rfl) (by kernel_rfl) (by kernel_rfl) (fun _ _ _ h => h) (Or.inl ⟨by rfl, ?_⟩) (by assumption) ?_
              rotate_left
              (focus (intro w hSw; (try dsimp only at hSw); go_simp; (try with_reducible rfl)))
              (try simp only [Act.put, List.getElem_toArray, List.getElem_cons_succ, List.getElem_cons_zero, List.setIfInBounds_toArray, List.set_cons_zero, List.set_cons_succ])
              refine wpAnyH_take (i := 6) (v := ?_) rfl (by kernel_rfl) (by kernel_rfl) (by kernel_rfl) (fun _ _ _ h => h) (Or.inl ⟨by rfl, ?_⟩) (by assumption) ?_
              rotate_left
              (focus (intro w hSw; (try dsimp only at hSw); go_simp; (try with_reducible rfl)))
              (try simp only [Act.put, List.getElem_toArray, List.getElem_cons_succ, List.getElem_cons_zero, List.setIfInBounds_toArray, List.set_cons_zero, List.set_cons_succ])
              refine wpAnyH_take (i := 7) (v := ?_) rfl (by kernel_rfl) (by kernel_rfl) (by kernel_rfl) (fun _ _ _ h => h) (Or.inl ⟨by rfl, ?_⟩) (by assumption) ?_
              rotate_left
              (focus (intro w hSw; (try dsimp only at hSw); go_simp; (try with_reducible rfl)))
              (try simp only [Act.put, List.getElem_toArray, List.getElem_cons_succ, List.getElem_cons_zero, List.setIfInBounds_toArray, List.set_cons_zero, List.set_cons_succ])
              refine wpAnyH_take (i := 8) (v := ?_) rfl (by kernel_rfl) (by kernel_rfl) (by kernel_rfl) (fun _ _ _ h => h) (Or.inl ⟨by rfl, ?_⟩) (by assumption) ?_
              rotate_left
              (focus (intro w hSw; (try dsimp only at hSw); go_simp; (try with_reducible rfl)))
              (try simp only [Act.put, List.getElem_toArray, List.getElem_cons_succ, List.getElem_cons_zero, List.setIfInBounds_toArray, List.set_cons_zero, List.set_cons_succ])
              refine wpAnyH_take (i := 9) (v := ?_) rfl (by kernel_rfl) (by kernel_rfl) (by kernel_rfl) (fun _ _ _ h => h) (Or.inl ⟨by rfl, ?_⟩) (by assumption) ?_
              rotate_left
              (focus (intro w hSw; (try dsimp only at hSw); go_simp; (try with_reducible rfl)))
              (try simp only [Act.put, List.getElem_toArray, List.getElem_cons_succ, List.getElem_cons_zero, List.setIfInBounds_toArray, List.set_cons_zero, List.set_cons_succ])
              refine wpAnyH_take (i := 10) (v := ?_) rfl (by kernel_rfl) (by kernel_rfl) (by kernel_rfl) (fun _ _ _ h => h) (Or.inl ⟨by rfl, ?_⟩) (by assumption) ?_
              rotate_left
              (focus (intro w hSw; (try dsimp only at hSw); go_simp; (try with_reducible rfl)))
              (try simp only [Act.put, List.getElem_toArray, List.getElem_cons_succ, List.getElem_cons_zero, List.setIfInBounds_toArray, List.set_cons_zero, List.set_cons_succ])
              refine wpAnyH_take (i := 11) (v := ?_) rfl (by kernel_rfl) (by kernel_rfl) (by kernel_rfl) (fun _ _ _ h => h) (Or.inl ⟨by rfl, ?_⟩) (by assumption) ?_
              rotate_left
              (focus (intro w hSw; (try dsimp only at hSw); go_simp; (try with_reducible rfl)))
              (try simp only [Act.put, List.getElem_toArray, List.getElem_cons_succ, List.getElem_cons_zero, List.setIfInBounds_toArray, List.set_cons_zero, List.set_cons_succ])
              refine wpAnyH_take (i := 12) (v := ?_) rfl (by kernel_rfl) (by kernel_rfl) (by kernel_rfl) (fun _ _ _ h => h) (Or.inl ⟨by rfl, ?_⟩) (by assumption) ?_
              rotate_left
              (focus (intro w hSw; (try dsimp only at hSw); go_simp; (try with_reducible rfl)))
              (try simp only [Act.put, List.getElem_toArray, List.getElem_cons_succ, List.getElem_cons_zero, List.setIfInBounds_toArray, List.set_cons_zero, List.set_cons_succ])
              refine wpAnyH_take (i := 13) (v := ?_) rfl (by kernel_rfl) (by kernel_rfl) (by kernel_rfl) (fun _ _ _ h => h) (Or.inl ⟨by rfl, ?_⟩) (by assumption) ?_
              rotate_left
              (focus (intro w hSw; (try dsimp only at hSw); go_simp; (try with_reducible rfl)))
              (try simp only [Act.put, List.getElem_toArray, List.getElem_cons_succ, List.getElem_cons_zero, List.setIfInBounds_toArray, List.set_cons_zero, List.set_cons_succ])
              refine wpAnyH_ready (rs := [1, 14]) (by kernel_rfl) (by simp) ?_
              refine AllReadyH.cons rfl (fun Kp hK => ?_) (AllReadyH.cons rfl (fun Kp hK => ?_) AllReadyH.nil)
              · skip
                go_simp
                refine hK.out _ _ (show _ from ⟨⟨(K0.out.tf.one 6 (by omega)).1, (K0.out.tf.one 6 (by omega)).2.1, (K0.out.tf.one 6 (by omega)).2.2⟩, ⟨(K0.out.tf.two 2 (by omega)).1, (K0.out.tf.two 2 (by omega)).2.1, (K0.out.tf.two 2 (by omega)).2.2⟩⟩) (fun hHeld => ?_)
                clear hK Kp
                (try simp only [Act.put, List.getElem_toArray, List.getElem_cons_succ, List.getElem_cons_zero, List.setIfInBounds_toArray, List.set_cons_zero, List.set_cons_succ])
                refine wpAnyH_ready (rs := [14]) (by kernel_rfl) (by simp) ?_
                refine AllReadyH.cons rfl (fun Kp hK => ?_) AllReadyH.nil
                go_simp
                go_at_call 80
                (with_reducible refine (stimes_any (w.heap.size + 1 + 1 + 1) false (t.get 6) (v.get 2) _ (by have := K0.out.tf.size; have := o.hP; omega) K0.out.tf.cell K0.out.tf.free).mono ?_)
                rintro e w6 ho
                rw [e1] at ho
                obtain ⟨rfl, hs⟩ : e = .returned (.agg #[.int .i64 (Pd 1 2).re, .int .i64 (Pd 1 2).im, .int .i64 (Pd 1 2).den]) ∧ Sm (w.heap.size + 1 + 1 + 1) false _ _ := ho.fn
                have hzw6 := hs.size
                (try simp at hzw6)
                have K6 := Lib.hid (K0.out.sm o hs)
                clear ho hs
                refine hK.out _ _ (show _ from ⟨⟨(K6.out.tf.one 6 (by omega)).1, (K6.out.tf.one 6 (by omega)).2.1, (K6.out.tf.one 6 (by omega)).2.2⟩, ⟨(K6.out.tf.two 2 (by omega)).1, (K6.out.tf.two 2 (by omega)).2.1, (K6.out.tf.two 2 (by omega)).2.2⟩⟩) (fun hHeld => ?_)
                clear hK Kp
                (try simp only [Act.put, List.getElem_toArray, List.getElem_cons_succ, List.getElem_cons_zero, List.setIfInBounds_toArray, List.set_cons_zero, List.set_cons_succ])
                refine wpAnyH_ready (rs := [15]) (by kernel_rfl) (by simp) ?_
                refine AllReadyH.cons rfl (fun Kp hK => ?_) AllReadyH.nil
                go_simp
                go_at_call 77
                (with_reducible refine (sadd_any (w.heap.size + 1 + 1 + 1) false (Ac 1 2) (Pd 1 2) _ (by have := K6.out.tf.size; have := o.hP; omega) K6.out.tf.cell K6.out.tf.free).mono ?_)
                rintro e w7 ho
                rw [e2] at ho
                obtain ⟨rfl, hs⟩ : e = .returned (.agg #[.int .i64 (Ac 1 3).re, .int .i64 (Ac 1 3).im, .int .i64 (Ac 1 3).den]) ∧ Sm (w.heap.size + 1 + 1 + 1) false _ _ := ho.fn
                have hzw7 := hs.size
                (try simp at hzw7)
                have K7 := Lib.hid (K6.out.sm o hs)
                clear ho hs
                refine hK.out _ _ (show _ from ⟨⟨(K7.out.tf.one 6 (by omega)).1, (K7.out.tf.one 6 (by omega)).2.1, (K7.out.tf.one 6 (by omega)).2.2⟩, ⟨(K7.out.tf.two 2 (by omega)).1, (K7.out.tf.two 2 (by omega)).2.1, (K7.out.tf.two 2 (by omega)).2.2⟩⟩) (fun hHeld => ?_)
                clear hK Kp
                (try simp only [Act.put, List.getElem_toArray, List.getElem_cons_succ, List.getElem_cons_zero, List.setIfInBounds_toArray, List.set_cons_zero, List.set_cons_succ])
                obtain ⟨y0, q0⟩ := Option.isSome_iff_exists.1 (K7.out.room 0 (by omega)).1
                have fq0 := (K7.out.room 0 (by omega)).2
                obtain ⟨y1, q1⟩ := Option.isSome_iff_exists.1 (K7.out.room 1 (by omega)).1
                have fq1 := (K7.out.room 1 (by omega)).2
                obtain ⟨y2, q2⟩ := Option.isSome_iff_exists.1 (K7.out.room 2 (by omega)).1
                have fq2 := (K7.out.room 2 (by omega)).2
                refine wpAnyH_ready (rs := [16]) (by kernel_rfl) (by simp) ?_
                refine AllReadyH.cons rfl (fun Kp hK => ?_) AllReadyH.nil
                go_simp
                refine hK.out _ _ (show _ from ⟨⟨((K7.out.put o (Ac 1 3)).tf.one 6 (by omega)).1, ((K7.out.put o (Ac 1 3)).tf.one 6 (by omega)).2.1, ((K7.out.put o (Ac 1 3)).tf.one 6 (by omega)).2.2⟩, ⟨((K7.out.put o (Ac 1 3)).tf.two 2 (by omega)).1, ((K7.out.put o (Ac 1 3)).tf.two 2 (by omega)).2.1, ((K7.out.put o (Ac 1 3)).tf.two 2 (by omega)).2.2⟩⟩) (fun hHeld => ?_)
                clear hK Kp
                (try simp only [Act.put, List.getElem_toArray, List.getElem_cons_succ, List.getElem_cons_zero, List.setIfInBounds_toArray, List.set_cons_zero, List.set_cons_succ])
                refine wpAnyH_done (by kernel_rfl) ?_ _
                clear hHeld
                go_wp2
                go_roundw
                case rel =>
                  refine ⟨_, _, _, _, _, _, _, _, _, _, _, _, _, _, _, _, _, _, _, _, _, ⟨3, ?_, by omega, by omega, K7.out.put o _⟩, rfl⟩
                  first | rfl | go_num
                case measure => simp [intOf]
              · skip
                go_simp
                go_at_call 80
                (with_reducible refine (stimes_any (w.heap.size + 1 + 1 + 1) false (t.get 6) (v.get 2) _ (by have := K0.out.tf.size; have := o.hP; omega) K0.out.tf.cell K0.out.tf.free).mono ?_)
                rintro e w6 ho
                rw [e1] at ho
                obtain ⟨rfl, hs⟩ : e = .returned (.agg #[.int .i64 (Pd 1 2).re, .int .i64 (Pd 1 2).im, .int .i64 (Pd 1 2).den]) ∧ Sm (w.heap.size + 1 + 1 + 1) false _ _ := ho.fn
                have hzw6 := hs.size
                (try simp at hzw6)
                have K6 := Lib.hid (K0.out.sm o hs)
                clear ho hs
                obtain ⟨u0, u1, u2⟩ := K6.out.box.f3
                refine hK.out _ _ (show _ from ⟨⟨(K6.out.tf.one 6 (by omega)).1, (K6.out.tf.one 6 (by omega)).2.1, (K6.out.tf.one 6 (by omega)).2.2⟩, ⟨(K6.out.tf.two 2 (by omega)).1, (K6.out.tf.two 2 (by omega)).2.1, (K6.out.tf.two 2 (by omega)).2.2⟩⟩) (fun hHeld => ?_)
                clear hK Kp
                (try simp only [Act.put, List.getElem_toArray, List.getElem_cons_succ, List.getElem_cons_zero, List.setIfInBounds_toArray, List.set_cons_zero, List.set_cons_succ])
                refine wpAnyH_ready (rs := [1]) (by kernel_rfl) (by simp) ?_
                refine AllReadyH.cons rfl (fun Kp hK => ?_) AllReadyH.nil
                go_simp
                refine hK.out _ _ (show _ from ⟨⟨(K6.out.tf.one 6 (by omega)).1, (K6.out.tf.one 6 (by omega)).2.1, (K6.out.tf.one 6 (by omega)).2.2⟩, ⟨(K6.out.tf.two 2 (by omega)).1, (K6.out.tf.two 2 (by omega)).2.1, (K6.out.tf.two 2 (by omega)).2.2⟩⟩) (fun hHeld => ?_)
                clear hK Kp
                (try simp only [Act.put, List.getElem_toArray, List.getElem_cons_succ, List.getElem_cons_zero, List.setIfInBounds_toArray, List.set_cons_zero, List.set_cons_succ])
                refine wpAnyH_ready (rs := [15]) (by kernel_rfl) (by simp) ?_
                refine AllReadyH.cons rfl (fun Kp hK => ?_) AllReadyH.nil
                go_simp
                go_at_call 77
                (with_reducible refine (sadd_any (w.heap.size + 1 + 1 + 1) false (Ac 1 2) (Pd 1 2) _ (by have := K6.out.tf.size; have := o.hP; omega) K6.out.tf.cell K6.out.tf.free).mono ?_)
                rintro e w7 ho
                rw [e2] at ho
                obtain ⟨rfl, hs⟩ : e = .returned (.agg #[.int .i64 (Ac 1 3).re, .int .i64 (Ac 1 3).im, .int .i64 (Ac 1 3).den]) ∧ Sm (w.heap.size + 1 + 1 + 1) false _ _ := ho.fn
                have hzw7 := hs.size
                (try simp at hzw7)
                have K7 := Lib.hid (K6.out.sm o hs)
                clear ho hs
                refine hK.out _ _ (show _ from ⟨⟨(K7.out.tf.one 6 (by omega)).1, (K7.out.tf.one 6 (by omega)).2.1, (K7.out.tf.one 6 (by omega)).2.2⟩, ⟨(K7.out.tf.two 2 (by omega)).1, (K7.out.tf.two 2 (by omega)).2.1, (K7.out.tf.two 2 (by omega)).2.2⟩⟩) (fun hHeld => ?_)
                clear hK Kp
                (try simp only [Act.put, List.getElem_toArray, List.getElem_cons_succ, List.getElem_cons_zero, List.setIfInBounds_toArray, List.set_cons_zero, List.set_cons_succ])
                obtain ⟨y0, q0⟩ := Option.isSome_iff_exists.1 (K7.out.room 0 (by omega)).1
                have fq0 := (K7.out.room 0 (by omega)).2
                obtain ⟨y1, q1⟩ := Option.isSome_iff_exists.1 (K7.out.room 1 (by omega)).1
                have fq1 := (K7.out.room 1 (by omega)).2
                obtain ⟨y2, q2⟩ := Option.isSome_iff_exists.1 (K7.out.room 2 (by omega)).1
                have fq2 := (K7.out.room 2 (by omega)).2
                refine wpAnyH_ready (rs := [16]) (by kernel_rfl) (by simp) ?_
                refine AllReadyH.cons rfl (fun Kp hK => ?_) AllReadyH.nil
                go_simp
                refine hK.out _ _ (show _ from ⟨⟨((K7.out.put o (Ac 1 3)).tf.one 6 (by omega)).1, ((K7.out.put o (Ac 1 3)).tf.one 6 (by omega)).2.1, ((K7.out.put o (Ac 1 3)).tf.one 6 (by omega)).2.2⟩, ⟨((K7.out.put o (Ac 1 3)).tf.two 2 (by omega)).1, ((K7.out.put o (Ac 1 3)).tf.two 2 (by omega)).2.1, ((K7.out.put o (Ac 1 3)).tf.two 2 (by omega)).2.2⟩⟩) (fun hHeld => ?_)
                clear hK Kp
                (try simp only [Act.put, List.getElem_toArray, List.getElem_cons_succ, List.getElem_cons_zero, List.setIfInBounds_toArray, List.set_cons_zero, List.set_cons_succ])
                refine wpAnyH_done (by kernel_rfl) ?_ _
                clear hHeld
                go_wp2
                go_roundw
                case rel =>
                  refine ⟨_, _, _, _, _, _, _, _, _, _, _, _, _, _, _, _, _, _, _, _, _, ⟨3, ?_, by omega, by omega, K7.out.put o _⟩, rfl⟩
                  first | rfl | go_num
                case measure => simp [intOf]
            · skip
              have e1 : fTimes (t.get 7) (v.get 3) = (Pd 1 3, true) := hp 1 3 (by omega) (by omega) (by omega)
              have e2 : fAdd (Ac 1 3) (Pd 1 3) = (Ac 1 4, true) := ha 1 3 (by omega) (by omega) (by omega)
              have W4 : IntKind.i64.wrap 4 = 4 := by decide
              have W5 : IntKind.i64.wrap 7 = 7 := by decide
              go_upto_region 10 with fail
              have K0 := Lib.hid hX.drew
              obtain ⟨x0, x1, x2⟩ := (show BoxAt (World.drew _) X (fun _ => Ac 1 3) 1 from K0.out.box).f3
              refine wp_region_held_drew (S := (fun w' => (w'.cell? ⟨w.heap.size, 21, none⟩ = some (.int .i64 (t.get 7).re) ∧ w'.cell? ⟨w.heap.size, 22, none⟩ = some (.int .i64 (t.get 7).im) ∧ w'.cell? ⟨w.heap.size, 23, none⟩ = some (.int .i64 (t.get 7).den)) ∧ (w'.cell? ⟨w.heap.size + 1, 9, none⟩ = some (.int .i64 (v.get 3).re) ∧ w'.cell? ⟨w.heap.size + 1, 10, none⟩ = some (.int .i64 (v.get 3).im) ∧ w'.cell? ⟨w.heap.size + 1, 11, none⟩ = some (.int .i64 (v.get 3).den)))) (by kernel_rfl) (show _ from ⟨⟨(K0.out.tf.one 7 (by omega)).1, (K0.out.tf.one 7 (by omega)).2.1, (K0.out.tf.one 7 (by omega)).2.2⟩, ⟨(K0.out.tf.two 3 (by omega)).1, (K0.out.tf.two 3 (by omega)).2.1, (K0.out.tf.two 3 (by omega)).2.2⟩⟩) (fun hHeld => ?_)
              refine wpAnyH_take (i := 0) (v := ?_) rfl (by kernel_rfl) (by kernel_rfl) (by kernel_rfl) (fun _ _ _ h => h) (Or.inl ⟨by rfl, ?_⟩) (by assumption) ?_
              rotate_left
              (focus (intro w hSw; (try dsimp only at hSw); go_simp; (try with_reducible rfl)))
              (try simp only [Act.put, List.getElem_toArray, List.getElem_cons_zero, List.setIfInBounds_toArray, List.set_cons_zero, List.set_cons_succ])
              refine wpAnyH_take (i := 2) (v := ?_) rfl (by kernel_rfl) (by kernel_rfl) (by kernel_rfl) (fun _ _ _ h => h) (Or.inl ⟨by rfl, ?_⟩) (by assumption) ?_
              rotate_left
              (focus (intro w hSw; (try dsimp only at hSw); go_simp; (try with_reducible rfl)))
              (try simp only [Act.put, List.getElem_toArray, List.getElem_cons_succ, List.getElem_cons_zero, List.setIfInBounds_toArray, List.set_cons_zero, List.set_cons_succ])
              refine wpAnyH_take (i := 3) (v := ?_) rfl (by kernel_rfl) (by kernel_rfl) (by kernel_rfl) (fun _ _ _ h => h) (Or.inl ⟨by rfl, ?_⟩) (by assumption) ?_
              rotate_left
              (focus (intro w hSw; (try dsimp only at hSw); go_simp; (try with_reducible rfl)))
              (try simp only [Act.put, List.getElem_toArray, List.getElem_cons_succ, List.getElem_cons_zero, List.setIfInBounds_toArray, List.set_cons_zero, List.set_cons_succ])
              refine wpAnyH_take (i := 4) (v := ?_) rfl (by kernel_rfl) (by kernel_rfl) (by kernel_rfl) (fun _ _ _ h => h) (Or.inl ⟨by rfl, ?_⟩) (by assumption) ?_
              rotate_left
              (focus (intro w hSw; (try dsimp only at hSw); go_simp; (try with_reducible rfl)))
              (try simp only [Act.put, List.getElem_toArray, List.getElem_cons_succ, List.getElem_cons_zero, List.setIfInBounds_toArray, List.set_cons_zero, List.set_cons_succ])
              refine wpAnyH_take (i := 5) (v := ?_) rfl (by kernel_rfl) (by kernel_rfl) (by kernel_rfl) (fun _ _ _ h => h) (Or.inl ⟨by rfl, ?_⟩) (by assumption) ?_
              rotate_left
              (focus (intro w hSw; (try dsimp only at hSw); go_simp; (try with_reducible rfl)))
              (try simp only [Act.put, List.getElem_toArray, List.getElem_cons_succ, List.getElem_cons_zero, List.setIfInBounds_toArray, List.set_cons_zero, List.set_cons_succ])
              refine wpAnyH_take (i := 6) (v := ?_) rfl (by kernel_rfl) (by kernel_rfl) (by kernel_rfl) (fun _ _ _ h => h) (Or.inl ⟨by rfl, ?_⟩) (by assumption) ?_
              rotate_left
              (focus (intro w hSw; (try dsimp only at hSw); go_simp; (try with_reducible rfl)))
              (try simp only [Act.put, List.getElem_toArray, List.getElem_cons_succ, List.getElem_cons_zero, List.setIfInBounds_toArray, List.set_cons_zero, List.set_cons_succ])
              refine wpAnyH_take (i := 7) (v := ?_) rfl (by kernel_rfl) (by kernel_rfl) (by kernel_rfl) (fun _ _ _ h => h) (Or.inl ⟨by rfl, ?_⟩) (by assumption) ?_
              rotate_left
              (focus (intro w hSw; (try dsimp only at hSw); go_simp; (try with_reducible rfl)))
              (try simp only [Act.put, List.getElem_toArray, List.getElem_cons_succ, List.getElem_cons_zero, List.setIfInBounds_toArray, List.set_cons_zero, List.set_cons_succ])
              refine wpAnyH_take (i := 8) (v := ?_) rfl (by kernel_rfl) (by kernel_rfl) (by kernel_rfl) (fun _ _ _ h => h) (Or.inl ⟨by rfl, ?_⟩) (by assumption) ?_
              rotate_left
              (focus (intro w hSw; (try dsimp only at hSw); go_simp; (try with_reducible rfl)))
              (try simp only [Act.put, List.getElem_toArray, List.getElem_cons_succ, List.getElem_cons_zero, List.setIfInBounds_toArray, List.set_cons_zero, List.set_cons_succ])
              refine wpAnyH_take (i := 9) (v := ?_) rfl (by kernel_rfl) (by kernel_rfl) (by kernel_rfl) (fun _ _ _ h => h) (Or.inl ⟨by rfl, ?_⟩) (by assumption) ?_
              rotate_left
              (focus (intro w hSw; (try dsimp only at hSw); go_simp; (try with_reducible rfl)))
              (try simp only [Act.put, List.getElem_toArray, List.getElem_cons_succ, List.getElem_cons_zero, List.setIfInBounds_toArray, List.set_cons_zero, List.set_cons_succ])
              refine wpAnyH_take (i := 10) (v := ?_) rfl (by kernel_rfl) (by kernel_rfl) (by kernel_rfl) (fun _ _ _ h => h) (Or.inl ⟨by rfl, ?_⟩) (by assumption) ?_
              rotate_left
              (focus (intro w hSw; (try dsimp only at hSw); go_simp; (try with_reducible rfl)))
              (try simp only [Act.put, List.getElem_toArray, List.getElem_cons_succ, List.getElem_cons_zero, List.setIfInBounds_toArray, List.set_cons_zero, List.set_cons_succ])
              refine wpAnyH_take (i := 11) (v := ?_) rfl (by kernel_rfl) (by kernel_rfl) (by kernel_rfl) (fun _ _ _ h => h) (Or.inl ⟨by rfl, ?_⟩) (by assumption) ?_
              rotate_left
              (focus (intro w hSw; (try dsimp only at hSw); go_simp; (try with_reducible rfl)))
              (try simp only [Act.put, List.getElem_toArray, List.getElem_cons_succ, List.getElem_cons_zero, List.setIfInBounds_toArray, List.set_cons_zero, List.set_cons_succ])
              refine wpAnyH_take (i := 12) (v := ?_) rfl (by kernel_rfl) (by kernel_rfl) (by kernel_rfl) (fun _ _ _ h => h) (Or.inl ⟨by rfl, ?_⟩) (by assumption) ?_
              rotate_left
              (focus (intro w hSw; (try dsimp only at hSw); go_simp; (try with_reducible rfl)))
              (try simp only [Act.put, List.getElem_toArray, List.getElem_cons_succ, List.getElem_cons_zero, List.setIfInBounds_toArray, List.set_cons_zero, List.set_cons_succ])
              refine wpAnyH_take (i := 13) (v := ?_) rfl (by kernel_rfl) (by kernel_rfl) (by kernel_rfl) (fun _ _ _ h => h) (Or.inl ⟨by rfl, ?_⟩) (by assumption) ?_
              rotate_left
              (focus (intro w hSw; (try dsimp only at hSw); go_simp; (try with_reducible rfl)))
              (try simp only [Act.put, List.getElem_toArray, List.getElem_cons_succ, List.getElem_cons_zero, List.setIfInBounds_toArray, List.set_cons_zero, List.set_cons_succ])
              refine wpAnyH_ready (rs := [1, 14]) (by kernel_rfl) (by simp) ?_
              refine AllReadyH.cons rfl (fun Kp hK => ?_) (AllReadyH.cons rfl (fun Kp hK => ?_) AllReadyH.nil)
              · skip
                go_simp
                refine hK.out _ _ (show _ from ⟨⟨(K0.out.tf.one 7 (by omega)).1, (K0.out.tf.one 7 (by omega)).2.1, (K0.out.tf.one 7 (by omega)).2.2⟩, ⟨(K0.out.tf.two 3 (by omega)).1, (K0.out.tf.two 3 (by omega)).2.1, (K0.out.tf.two 3 (by omega)).2.2⟩⟩) (fun hHeld => ?_)
                clear hK Kp
                (try simp only [Act.put, List.getElem_toArray, List.getElem_cons_succ, List.getElem_cons_zero, List.setIfInBounds_toArray, List.set_cons_zero, List.set_cons_succ])
                refine wpAnyH_ready (rs := [14]) (by kernel_rfl) (by simp) ?_
                refine AllReadyH.cons rfl (fun Kp hK => ?_) AllReadyH.nil
                go_simp
                go_at_call 80
                (with_reducible refine (stimes_any (w.heap.size + 1 + 1 + 1) false (t.get 7) (v.get 3) _ (by have := K0.out.tf.size; have := o.hP; omega) K0.out.tf.cell K0.out.tf.free).mono ?_)
                rintro e w6 ho
                rw [e1] at ho
                obtain ⟨rfl, hs⟩ : e = .returned (.agg #[.int .i64 (Pd 1 3).re, .int .i64 (Pd 1 3).im, .int .i64 (Pd 1 3).den]) ∧ Sm (w.heap.size + 1 + 1 + 1) false _ _ := ho.fn
                have hzw6 := hs.size
                (try simp at hzw6)
                have K6 := Lib.hid (K0.out.sm o hs)
                clear ho hs
                refine hK.out _ _ (show _ from ⟨⟨(K6.out.tf.one 7 (by omega)).1, (K6.out.tf.one 7 (by omega)).2.1, (K6.out.tf.one 7 (by omega)).2.2⟩, ⟨(K6.out.tf.two 3 (by omega)).1, (K6.out.tf.two 3 (by omega)).2.1, (K6.out.tf.two 3 (by omega)).2.2⟩⟩) (fun hHeld => ?_)
                clear hK Kp
                (try simp only [Act.put, List.getElem_toArray, List.getElem_cons_succ, List.getElem_cons_zero, List.setIfInBounds_toArray, List.set_cons_zero, List.set_cons_succ])
                refine wpAnyH_ready (rs := [15]) (by kernel_rfl) (by simp) ?_
                refine AllReadyH.cons rfl (fun Kp hK => ?_) AllReadyH.nil
                go_simp
                go_at_call 77
                (with_reducible refine (sadd_any (w.heap.size + 1 + 1 + 1) false (Ac 1 3) (Pd 1 3) _ (by have := K6.out.tf.size; have := o.hP; omega) K6.out.tf.cell K6.out.tf.free).mono ?_)
                rintro e w7 ho
                rw [e2] at ho
                obtain ⟨rfl, hs⟩ : e = .returned (.agg #[.int .i64 (Ac 1 4).re, .int .i64 (Ac 1 4).im, .int .i64 (Ac 1 4).den]) ∧ Sm (w.heap.size + 1 + 1 + 1) false _ _ := ho.fn
                have hzw7 := hs.size
                (try simp at hzw7)
                have K7 := Lib.hid (K6.out.sm o hs)
                clear ho hs
                refine hK.out _ _ (show _ from ⟨⟨(K7.out.tf.one 7 (by omega)).1, (K7.out.tf.one 7 (by omega)).2.1, (K7.out.tf.one 7 (by omega)).2.2⟩, ⟨(K7.out.tf.two 3 (by omega)).1, (K7.out.tf.two 3 (by omega)).2.1, (K7.out.tf.two 3 (by omega)).2.2⟩⟩) (fun hHeld => ?_)
                clear hK Kp
                (try simp only [Act.put, List.getElem_toArray, List.getElem_cons_succ, List.getElem_cons_zero, List.setIfInBounds_toArray, List.set_cons_zero, List.set_cons_succ])
                obtain ⟨y0, q0⟩ := Option.isSome_iff_exists.1 (K7.out.room 0 (by omega)).1
                have fq0 := (K7.out.room 0 (by omega)).2
                obtain ⟨y1, q1⟩ := Option.isSome_iff_exists.1 (K7.out.room 1 (by omega)).1
                have fq1 := (K7.out.room 1 (by omega)).2
                obtain ⟨y2, q2⟩ := Option.isSome_iff_exists.1 (K7.out.room 2 (by omega)).1
                have fq2 := (K7.out.room 2 (by omega)).2
                refine wpAnyH_ready (rs := [16]) (by kernel_rfl) (by simp) ?_
                refine AllReadyH.cons rfl (fun Kp hK => ?_) AllReadyH.nil
                go_simp
                refine hK.out _ _ (show _ from ⟨⟨((K7.out.put o (Ac 1 4)).tf.one 7 (by omega)).1, ((K7.out.put o (Ac 1 4)).tf.one 7 (by omega)).2.1, ((K7.out.put o (Ac 1 4)).tf.one 7 (by omega)).2.2⟩, ⟨((K7.out.put o (Ac 1 4)).tf.two 3 (by omega)).1, ((K7.out.put o (Ac 1 4)).tf.two 3 (by omega)).2.1, ((K7.out.put o (Ac 1 4)).tf.two 3 (by omega)).2.2⟩⟩) (fun hHeld => ?_)
                clear hK Kp
                (try simp only [Act.put, List.getElem_toArray, List.getElem_cons_succ, List.getElem_cons_zero, List.setIfInBounds_toArray, List.set_cons_zero, List.set_cons_succ])
                refine wpAnyH_done (by kernel_rfl) ?_ _
                clear hHeld
                go_wp2
                go_roundw
                case rel =>
                  refine ⟨_, _, _, _, _, _, _, _, _, _, _, _, _, _, _, _, _, _, _, _, _, ⟨4, ?_, by omega, by omega, K7.out.put o _⟩, rfl⟩
                  first | rfl | go_num
                case measure => simp [intOf]
              · skip
                go_simp
                go_at_call 80
                (with_reducible refine (stimes_any (w.heap.size + 1 + 1 + 1) false (t.get 7) (v.get 3) _ (by have := K0.out.tf.size; have := o.hP; omega) K0.out.tf.cell K0.out.tf.free).mono ?_)
                rintro e w6 ho
                rw [e1] at ho
                obtain ⟨rfl, hs⟩ : e = .returned (.agg #[.int .i64 (Pd 1 3).re, .int .i64 (Pd 1 3).im, .int .i64 (Pd 1 3).den]) ∧ Sm (w.heap.size + 1 + 1 + 1) false _ _ := ho.fn
                have hzw6 := hs.size
                (try simp at hzw6)
                have K6 := Lib.hid (K0.out.sm o hs)
                clear ho hs
                obtain ⟨u0, u1, u2⟩ := K6.out.box.f3
                refine hK.out _ _ (show _ from ⟨⟨(K6.out.tf.one 7 (by omega)).1, (K6.out.tf.one 7 (by omega)).2.1, (K6.out.tf.one 7 (by omega)).2.2⟩, ⟨(K6.out.tf.two 3 (by omega)).1, (K6.out.tf.two 3 (by omega)).2.1, (K6.out.tf.two 3 (by omega)).2.2⟩⟩) (fun hHeld => ?_)
                clear hK Kp
                (try simp only [Act.put, List.getElem_toArray, List.getElem_cons_succ, List.getElem_cons_zero, List.setIfInBounds_toArray, List.set_cons_zero, List.set_cons_succ])
                refine wpAnyH_ready (rs := [1]) (by kernel_rfl) (by simp) ?_
                refine AllReadyH.cons rfl (fun Kp hK => ?_) AllReadyH.nil
                go_simp
                refine hK.out _ _ (show _ from ⟨⟨(K6.out.tf.one 7 (by omega)).1, (K6.out.tf.one 7 (by omega)).2.1, (K6.out.tf.one 7 (by omega)).2.2⟩, ⟨(K6.out.tf.two 3 (by omega)).1, (K6.out.tf.two 3 (by omega)).2.1, (K6.out.tf.two 3 (by omega)).2.2⟩⟩) (fun hHeld => ?_)
                clear hK Kp
                (try simp only [Act.put, List.getElem_toArray, List.getElem_cons_succ, List.getElem_cons_zero, List.setIfInBounds_toArray, List.set_cons_zero, List.set_cons_succ])
                refine wpAnyH_ready (rs := [15]) (by kernel_rfl) (by simp) ?_
                refine AllReadyH.cons rfl (fun Kp hK => ?_) AllReadyH.nil
                go_simp
                go_at_call 77
                (with_reducible refine (sadd_any (w.heap.size + 1 + 1 + 1) false (Ac 1 3) (Pd 1 3) _ (by have := K6.out.tf.size; have := o.hP; omega) K6.out.tf.cell K6.out.tf.free).mono ?_)
                rintro e w7 ho
                rw [e2] at ho
                obtain ⟨rfl, hs⟩ : e = .returned (.agg #[.int .i64 (Ac 1 4).re, .int .i64 (Ac 1 4).im, .int .i64 (Ac 1 4).den]) ∧ Sm (w.heap.size + 1 + 1 + 1) false _ _ := ho.fn
                have hzw7 := hs.size
                (try simp at hzw7)
                have K7 := Lib.hid (K6.out.sm o hs)
                clear ho hs
                refine hK.out _ _ (show _ from ⟨⟨(K7.out.tf.one 7 (by omega)).1, (K7.out.tf.one 7 (by omega)).2.1, (K7.out.tf.one 7 (by omega)).2.2⟩, ⟨(K7.out.tf.two 3 (by omega)).1, (K7.out.tf.two 3 (by omega)).2.1, (K7.out.tf.two 3 (by omega)).2.2⟩⟩) (fun hHeld => ?_)
                clear hK Kp
                (try simp only [Act.put, List.getElem_toArray, List.getElem_cons_succ, List.getElem_cons_zero, List.setIfInBounds_toArray, List.set_cons_zero, List.set_cons_succ])
                obtain ⟨y0, q0⟩ := Option.isSome_iff_exists.1 (K7.out.room 0 (by omega)).1
                have fq0 := (K7.out.room 0 (by omega)).2
                obtain ⟨y1, q1⟩ := Option.isSome_iff_exists.1 (K7.out.room 1 (by omega)).1
                have fq1 := (K7.out.room 1 (by omega)).2
                obtain ⟨y2, q2⟩ := Option.isSome_iff_exists.1 (K7.out.room 2 (by omega)).1
                have fq2 := (K7.out.room 2 (by omega)).2
                refine wpAnyH_ready (rs := [16]) (by kernel_rfl) (by simp) ?_
                refine AllReadyH.cons rfl (fun Kp hK => ?_) AllReadyH.nil
                go_simp
                refine hK.out _ _ (show _ from ⟨⟨((K7.out.put o (Ac 1 4)).tf.one 7 (by omega)).1, ((K7.out.put o (Ac 1 4)).tf.one 7 (by omega)).2.1, ((K7.out.put o (Ac 1 4)).tf.one 7 (by omega)).2.2⟩, ⟨((K7.out.put o (Ac 1 4)).tf.two 3 (by omega)).1, ((K7.out.put o (Ac 1 4)).tf.two 3 (by omega)).2.1, ((K7.out.put o (Ac 1 4)).tf.two 3 (by omega)).2.2⟩⟩) (fun hHeld => ?_)
                clear hK Kp
                (try simp only [Act.put, List.getElem_toArray, List.getElem_cons_succ, List.getElem_cons_zero, List.setIfInBounds_toArray, List.set_cons_zero, List.set_cons_succ])
                refine wpAnyH_done (by kernel_rfl) ?_ _
                clear hHeld
                go_wp2
                go_roundw
                case rel =>
                  refine ⟨_, _, _, _, _, _, _, _, _, _, _, _, _, _, _, _, _, _, _, _, _, ⟨4, ?_, by omega, by omega, K7.out.put o _⟩, rfl⟩
                  first | rfl | go_num
                case measure => simp [intOf]
          · obtain rfl : k = 4 := by omega
            clear hk1 hk4 h5
            obtain ⟨x0, x1, x2⟩ := hX.box.f3
            have hzO := hX.tf.size
            have hnX : ¬ X = w3.heap.size := by omega
            have hnX2 : ¬ w3.heap.size = X := by omega
            obtain ⟨y0, q0⟩ := Option.isSome_iff_exists.1 (hX.tf.room 3 (by omega)).1
            have fq0 := (hX.tf.room 3 (by omega)).2
            obtain ⟨y1, q1⟩ := Option.isSome_iff_exists.1 (hX.tf.room 4 (by omega)).1
            have fq1 := (hX.tf.room 4 (by omega)).2
            obtain ⟨y2, q2⟩ := Option.isSome_iff_exists.1 (hX.tf.room 5 (by omega)).1
            have fq2 := (hX.tf.room 5 (by omega)).2
            have HT := Lib.hid (hX.tf.put o (by omega))
            clear hX
            go_wp2
            go_roundw
            case rel => exact ⟨2, by first | rfl | go_num, HT.out⟩
            case measure => simp [intOf]
      · skip
        have e0 : fTimes (t.get 8) (v.get 0) = (Ac 2 1, true) := h0 2 (by omega)
        have W0 : IntKind.i64.wrap 8 = 8 := by decide
        go_upto_region 6 with fail
        go_cut [9] (fun s9 wx => ∃ X : Nat, s9 = .pointer (some ⟨X, 0, none⟩) ∧ TX w (w.heap.size) (w.heap.size + 1) (w.heap.size + 1 + 1) (w.heap.size + 1 + 1 + 1) w3.heap.size t.get v.get (fun j => Ac j 4) 2 X (Ac 2 1) wx)
        case first =>
          have K0 := Lib.hid hT.drew
          refine wp_region_held_drew (S := (fun w' => (w'.cell? ⟨w.heap.size, 24, none⟩ = some (.int .i64 (t.get 8).re) ∧ w'.cell? ⟨w.heap.size, 25, none⟩ = some (.int .i64 (t.get 8).im) ∧ w'.cell? ⟨w.heap.size, 26, none⟩ = some (.int .i64 (t.get 8).den)) ∧ (w'.cell? ⟨w.heap.size + 1, 0, none⟩ = some (.int .i64 (v.get 0).re) ∧ w'.cell? ⟨w.heap.size + 1, 1, none⟩ = some (.int .i64 (v.get 0).im) ∧ w'.cell? ⟨w.heap.size + 1, 2, none⟩ = some (.int .i64 (v.get 0).den)))) (by kernel_rfl) (show _ from ⟨⟨(K0.out.one 8 (by omega)).1, (K0.out.one 8 (by omega)).2.1, (K0.out.one 8 (by omega)).2.2⟩, ⟨(K0.out.two 0 (by omega)).1, (K0.out.two 0 (by omega)).2.1, (K0.out.two 0 (by omega)).2.2⟩⟩) (fun hHeld => ?_)
          refine wpAnyH_take (i := 0) (v := ?_) rfl (by kernel_rfl) (by kernel_rfl) (by kernel_rfl) (fun _ _ _ h => h) (Or.inl ⟨by rfl, ?_⟩) (by assumption) ?_
          rotate_left
          (focus (intro w hSw; (try dsimp only at hSw); go_simp; (try with_reducible rfl)))
          (try simp only [Act.put, List.getElem_toArray, List.getElem_cons_zero, List.setIfInBounds_toArray, List.set_cons_zero, List.set_cons_succ])
          refine wpAnyH_take (i := 1) (v := ?_) rfl (by kernel_rfl) (by kernel_rfl) (by kernel_rfl) (fun _ _ _ h => h) (Or.inl ⟨by rfl, ?_⟩) (by assumption) ?_
          rotate_left
          (focus (intro w hSw; (try dsimp only at hSw); go_simp; (try with_reducible rfl)))
          (try simp only [Act.put, List.getElem_toArray, List.getElem_cons_succ, List.getElem_cons_zero, List.setIfInBounds_toArray, List.set_cons_zero, List.set_cons_succ])
          refine wpAnyH_take (i := 2) (v := ?_) rfl (by kernel_rfl) (by kernel_rfl) (by kernel_rfl) (fun _ _ _ h => h) (Or.inl ⟨by rfl, ?_⟩) (by assumption) ?_
          rotate_left
          (focus (intro w hSw; (try dsimp only at hSw); go_simp; (try with_reducible rfl)))
          (try simp only [Act.put, List.getElem_toArray, List.getElem_cons_succ, List.getElem_cons_zero, List.setIfInBounds_toArray, List.set_cons_zero, List.set_cons_succ])
          refine wpAnyH_take (i := 3) (v := ?_) rfl (by kernel_rfl) (by kernel_rfl) (by kernel_rfl) (fun _ _ _ h => h) (Or.inl ⟨by rfl, ?_⟩) (by assumption) ?_
          rotate_left
          (focus (intro w hSw; (try dsimp only at hSw); go_simp; (try with_reducible rfl)))
          (try simp only [Act.put, List.getElem_toArray, List.getElem_cons_succ, List.getElem_cons_zero, List.setIfInBounds_toArray, List.set_cons_zero, List.set_cons_succ])
          refine wpAnyH_take (i := 4) (v := ?_) rfl (by kernel_rfl) (by kernel_rfl) (by kernel_rfl) (fun _ _ _ h => h) (Or.inl ⟨by rfl, ?_⟩) (by assumption) ?_
          rotate_left
          (focus (intro w hSw; (try dsimp only at hSw); go_simp; (try with_reducible rfl)))
          (try simp only [Act.put, List.getElem_toArray, List.getElem_cons_succ, List.getElem_cons_zero, List.setIfInBounds_toArray, List.set_cons_zero, List.set_cons_succ])
          refine wpAnyH_take (i := 5) (v := ?_) rfl (by kernel_rfl) (by kernel_rfl) (by kernel_rfl) (fun _ _ _ h => h) (Or.inl ⟨by rfl, ?_⟩) (by assumption) ?_
          rotate_left
          (focus (intro w hSw; (try dsimp only at hSw); go_simp; (try with_reducible rfl)))
          (try simp only [Act.put, List.getElem_toArray, List.getElem_cons_succ, List.getElem_cons_zero, List.setIfInBounds_toArray, List.set_cons_zero, List.set_cons_succ])
          refine wpAnyH_take (i := 6) (v := ?_) rfl (by kernel_rfl) (by kernel_rfl) (by kernel_rfl) (fun _ _ _ h => h) (Or.inl ⟨by rfl, ?_⟩) (by assumption) ?_
          rotate_left
          (focus (intro w hSw; (try dsimp only at hSw); go_simp; (try with_reducible rfl)))
          (try simp only [Act.put, List.getElem_toArray, List.getElem_cons_succ, List.getElem_cons_zero, List.setIfInBounds_toArray, List.set_cons_zero, List.set_cons_succ])
          refine wpAnyH_take (i := 7) (v := ?_) rfl (by kernel_rfl) (by kernel_rfl) (by kernel_rfl) (fun _ _ _ h => h) (Or.inl ⟨by rfl, ?_⟩) (by assumption) ?_
          rotate_left
          (focus (intro w hSw; (try dsimp only at hSw); go_simp; (try with_reducible rfl)))
          (try simp only [Act.put, List.getElem_toArray, List.getElem_cons_succ, List.getElem_cons_zero, List.setIfInBounds_toArray, List.set_cons_zero, List.set_cons_succ])
          refine wpAnyH_take (i := 8) (v := ?_) rfl (by kernel_rfl) (by kernel_rfl) (by kernel_rfl) (fun _ _ _ h => h) (Or.inl ⟨by rfl, ?_⟩) (by assumption) ?_
          rotate_left
          (focus (intro w hSw; (try dsimp only at hSw); go_simp; (try with_reducible rfl)))
          (try simp only [Act.put, List.getElem_toArray, List.getElem_cons_succ, List.getElem_cons_zero, List.setIfInBounds_toArray, List.set_cons_zero, List.set_cons_succ])
          refine wpAnyH_ready (rs := [9, 10]) (by kernel_rfl) (by simp) ?_
          refine AllReadyH.cons rfl (fun Kp hK => ?_) (AllReadyH.cons rfl (fun Kp hK => ?_) AllReadyH.nil)
          · skip
            go_simp
            go_at_call 80
            (with_reducible refine (stimes_any (w.heap.size + 1 + 1 + 1) false (t.get 8) (v.get 0) _ (by have := K0.out.size; have := o.hP; omega) K0.out.cell K0.out.free).mono ?_)
            rintro e w5 ho
            rw [e0] at ho
            obtain ⟨rfl, hs⟩ : e = .returned (.agg #[.int .i64 (Ac 2 1).re, .int .i64 (Ac 2 1).im, .int .i64 (Ac 2 1).den]) ∧ Sm (w.heap.size + 1 + 1 + 1) false _ _ := ho.fn
            have hzw5 := hs.size
            (try simp at hzw5)
            have K5 := Lib.hid (K0.out.sm o hs)
            clear ho hs
            refine hK.out _ _ (show _ from ⟨⟨(K5.out.one 8 (by omega)).1, (K5.out.one 8 (by omega)).2.1, (K5.out.one 8 (by omega)).2.2⟩, ⟨(K5.out.two 0 (by omega)).1, (K5.out.two 0 (by omega)).2.1, (K5.out.two 0 (by omega)).2.2⟩⟩) (fun hHeld => ?_)
            clear hK Kp
            (try simp only [Act.put, List.getElem_toArray, List.getElem_cons_succ, List.getElem_cons_zero, List.setIfInBounds_toArray, List.set_cons_zero, List.set_cons_succ])
            refine wpAnyH_ready (rs := [10]) (by kernel_rfl) (by simp) ?_
            refine AllReadyH.cons rfl (fun Kp hK => ?_) AllReadyH.nil
            go_simp
            refine hK.out _ _ (show _ from ⟨⟨((K5.out.alloc o _).one 8 (by omega)).1, ((K5.out.alloc o _).one 8 (by omega)).2.1, ((K5.out.alloc o _).one 8 (by omega)).2.2⟩, ⟨((K5.out.alloc o _).two 0 (by omega)).1, ((K5.out.alloc o _).two 0 (by omega)).2.1, ((K5.out.alloc o _).two 0 (by omega)).2.2⟩⟩) (fun hHeld => ?_)
            clear hK Kp
            (try simp only [Act.put, List.getElem_toArray, List.getElem_cons_succ, List.getElem_cons_zero, List.setIfInBounds_toArray, List.set_cons_zero, List.set_cons_succ])
            refine wpAnyH_ready (rs := [11]) (by kernel_rfl) (by simp) ?_
            refine AllReadyH.cons rfl (fun Kp hK => ?_) AllReadyH.nil
            go_simp
            refine hK.out _ _ (show _ from ⟨⟨((K5.out.alloc o _).one 8 (by omega)).1, ((K5.out.alloc o _).one 8 (by omega)).2.1, ((K5.out.alloc o _).one 8 (by omega)).2.2⟩, ⟨((K5.out.alloc o _).two 0 (by omega)).1, ((K5.out.alloc o _).two 0 (by omega)).2.1, ((K5.out.alloc o _).two 0 (by omega)).2.2⟩⟩) (fun hHeld => ?_)
            clear hK Kp
            (try simp only [Act.put, List.getElem_toArray, List.getElem_cons_succ, List.getElem_cons_zero, List.setIfInBounds_toArray, List.set_cons_zero, List.set_cons_succ])
            refine wpAnyH_done (by kernel_rfl) ?_ _
            clear hHeld
            go_wp2_with fail
            go_meet
            exact ⟨w5.heap.size, rfl, K5.out.alloc o _, K5.out.size, by simp, Room.new' rfl rfl, boxN rfl⟩
          · skip
            have KA := Lib.hid (hT.alloc o (.cells #[.int .i64 0, .int .i64 0, .int .i64 0] 23)).drew
            go_simp
            refine hK.out _ _ (show _ from ⟨⟨(KA.out.one 8 (by omega)).1, (KA.out.one 8 (by omega)).2.1, (KA.out.one 8 (by omega)).2.2⟩, ⟨(KA.out.two 0 (by omega)).1, (KA.out.two 0 (by omega)).2.1, (KA.out.two 0 (by omega)).2.2⟩⟩) (fun hHeld => ?_)
            clear hK Kp
            (try simp only [Act.put, List.getElem_toArray, List.getElem_cons_succ, List.getElem_cons_zero, List.setIfInBounds_toArray, List.set_cons_zero, List.set_cons_succ])
            refine wpAnyH_ready (rs := [9]) (by kernel_rfl) (by simp) ?_
            refine AllReadyH.cons rfl (fun Kp hK => ?_) AllReadyH.nil
            go_simp
            go_at_call 80
            (with_reducible refine (stimes_any (w.heap.size + 1 + 1 + 1) false (t.get 8) (v.get 0) _ (by have := KA.out.size; have := o.hP; omega) KA.out.cell KA.out.free).mono ?_)
            rintro e w5 ho
            rw [e0] at ho
            obtain ⟨rfl, hs⟩ : e = .returned (.agg #[.int .i64 (Ac 2 1).re, .int .i64 (Ac 2 1).im, .int .i64 (Ac 2 1).den]) ∧ Sm (w.heap.size + 1 + 1 + 1) false _ _ := ho.fn
            have hzw5 := hs.size
            (try simp at hzw5)
            have RD := Lib.hid ((show Room (World.drew (wr.alloc (.cells #[.int .i64 0, .int .i64 0, .int .i64 0] 23))) wr.heap.size 1 from Room.new' rfl rfl).sm hs (by show wr.heap.size < _; simp) (by have := hT.size; have := o.hP; omega))
            have K5 := Lib.hid (KA.out.sm o hs)
            clear ho hs
            refine hK.out _ _ (show _ from ⟨⟨(K5.out.one 8 (by omega)).1, (K5.out.one 8 (by omega)).2.1, (K5.out.one 8 (by omega)).2.2⟩, ⟨(K5.out.two 0 (by omega)).1, (K5.out.two 0 (by omega)).2.1, (K5.out.two 0 (by omega)).2.2⟩⟩) (fun hHeld => ?_)
            clear hK Kp
            (try simp only [Act.put, List.getElem_toArray, List.getElem_cons_succ, List.getElem_cons_zero, List.setIfInBounds_toArray, List.set_cons_zero, List.set_cons_succ])
            obtain ⟨y0, q0⟩ := Option.isSome_iff_exists.1 (RD.out 0 (by omega)).1
            have fq0 := (RD.out 0 (by omega)).2
            obtain ⟨y1, q1⟩ := Option.isSome_iff_exists.1 (RD.out 1 (by omega)).1
            have fq1 := (RD.out 1 (by omega)).2
            obtain ⟨y2, q2⟩ := Option.isSome_iff_exists.1 (RD.out 2 (by omega)).1
            have fq2 := (RD.out 2 (by omega)).2
            refine wpAnyH_ready (rs := [11]) (by kernel_rfl) (by simp) ?_
            refine AllReadyH.cons rfl (fun Kp hK => ?_) AllReadyH.nil
            go_simp
            refine hK.out _ _ (show _ from ⟨⟨((((K5.out.far o (D := wr.heap.size) hT.size 0 _).far o hT.size 1 _).far o hT.size 2 _).one 8 (by omega)).1, ((((K5.out.far o (D := wr.heap.size) hT.size 0 _).far o hT.size 1 _).far o hT.size 2 _).one 8 (by omega)).2.1, ((((K5.out.far o (D := wr.heap.size) hT.size 0 _).far o hT.size 1 _).far o hT.size 2 _).one 8 (by omega)).2.2⟩, ⟨((((K5.out.far o (D := wr.heap.size) hT.size 0 _).far o hT.size 1 _).far o hT.size 2 _).two 0 (by omega)).1, ((((K5.out.far o (D := wr.heap.size) hT.size 0 _).far o hT.size 1 _).far o hT.size 2 _).two 0 (by omega)).2.1, ((((K5.out.far o (D := wr.heap.size) hT.size 0 _).far o hT.size 1 _).far o hT.size 2 _).two 0 (by omega)).2.2⟩⟩) (fun hHeld => ?_)
            clear hK Kp
            (try simp only [Act.put, List.getElem_toArray, List.getElem_cons_succ, List.getElem_cons_zero, List.setIfInBounds_toArray, List.set_cons_zero, List.set_cons_succ])
            refine wpAnyH_done (by kernel_rfl) ?_ _
            clear hHeld
            go_wp2_with fail
            go_meet
            exact ⟨wr.heap.size, rfl, ((K5.out.far o (D := wr.heap.size) hT.size 0 _).far o hT.size 1 _).far o hT.size 2 _, hT.size, by simp; omega, RD.out.put wr.heap.size 0 _, box1 RD.out⟩
        case rest =>
        obtain ⟨X, rfl, hX⟩ := hcut
        clear hT e0
        obtain ⟨U, hU⟩ : ∃ U, U = wc := ⟨_, rfl⟩
        rw [← hU] at hX
        rw [← hU]
        clear hU
        have hX1 := hX.lo
        have hX2 := hX.hi
        go_wp2
        go_loopw [10] (fun i wy => ∃ k : Nat, i = .int .i64 k ∧ 1 ≤ k ∧ k ≤ 4 ∧ TX w (w.heap.size) (w.heap.size + 1) (w.heap.size + 1 + 1) (w.heap.size + 1 + 1 + 1) w3.heap.size t.get v.get (fun j => Ac j 4) 2 X (Ac 2 k) wy) (fun i _ => (4 - intOf i).toNat)
        case atStart => exact ⟨1, rfl, by omega, by omega, hX⟩
        case round =>
          clear hX hX2
          obtain ⟨k, rfl, hk1, hk4, hX⟩ := hrel
          have hX2 := hX.hi
          by_cases h5 : k < 4
          · have hk : k = 1 ∨ k = 2 ∨ k = 3 := by omega
            clear hk1 hk4 h5
            rcases hk with rfl | rfl | rfl
            · skip
              have e1 : fTimes (t.get 9) (v.get 1) = (Pd 2 1, true) := hp 2 1 (by omega) (by omega) (by omega)
              have e2 : fAdd (Ac 2 1) (Pd 2 1) = (Ac 2 2, true) := ha 2 1 (by omega) (by omega) (by omega)
              have W4 : IntKind.i64.wrap 8 = 8 := by decide
              have W5 : IntKind.i64.wrap 9 = 9 := by decide
              go_upto_region 10 with fail
              have K0 := Lib.hid hX.drew
              obtain ⟨x0, x1, x2⟩ := (show BoxAt (World.drew _) X (fun _ => Ac 2 1) 1 from K0.out.box).f3
              refine wp_region_held_drew (S := (fun w' => (w'.cell? ⟨w.heap.size, 27, none⟩ = some (.int .i64 (t.get 9).re) ∧ w'.cell? ⟨w.heap.size, 28, none⟩ = some (.int .i64 (t.get 9).im) ∧ w'.cell? ⟨w.heap.size, 29, none⟩ = some (.int .i64 (t.get 9).den)) ∧ (w'.cell? ⟨w.heap.size + 1, 3, none⟩ = some (.int .i64 (v.get 1).re) ∧ w'.cell? ⟨w.heap.size + 1, 4, none⟩ = some (.int .i64 (v.get 1).im) ∧ w'.cell? ⟨w.heap.size + 1, 5, none⟩ = some (.int .i64 (v.get 1).den)))) (by kernel_rfl) (show _ from ⟨⟨(K0.out.tf.one 9 (by omega)).1, (K0.out.tf.one 9 (by omega)).2.1, (K0.out.tf.one 9 (by omega)).2.2⟩, ⟨(K0.out.tf.two 1 (by omega)).1, (K0.out.tf.two 1 (by omega)).2.1, (K0.out.tf.two 1 (by omega)).2.2⟩⟩) (fun hHeld => ?_)
              refine wpAnyH_take (i := 0) (v := ?_) rfl (by kernel_rfl) (by kernel_rfl) (by kernel_rfl) (fun _ _ _ h => h) (Or.inl ⟨by rfl, ?_⟩) (by assumption) ?_
              rotate_left
              (focus (intro w hSw; (try dsimp only at hSw); go_simp; (try with_reducible rfl)))
              (try simp only [Act.put, List.getElem_toArray, List.getElem_cons_zero, List.setIfInBounds_toArray, List.set_cons_zero, List.set_cons_succ])
              refine wpAnyH_take (i := 2) (v := ?_) rfl (by kernel_rfl) (by kernel_rfl) (by kernel_rfl) (fun _ _ _ h => h) (Or.inl ⟨by rfl, ?_⟩) (by assumption) ?_
              rotate_left
              (focus (intro w hSw; (try dsimp only at hSw); go_simp; (try with_reducible rfl)))
              (try simp only [Act.put, List.getElem_toArray, List.getElem_cons_succ, List.getElem_cons_zero, List.setIfInBounds_toArray, List.set_cons_zero, List.set_cons_succ])
              refine wpAnyH_take (i := 3) (v := ?_) rfl (by kernel_rfl) (by kernel_rfl) (by kernel_rfl) (fun _ _ _ h => h) (Or.inl ⟨by rfl, ?_⟩) (by assumption) ?_
              rotate_left
              (focus (intro w hSw; (try dsimp only at hSw); go_simp; (try with_reducible rfl)))
              (try simp only [Act.put, List.getElem_toArray, List.getElem_cons_succ, List.getElem_cons_zero, List.setIfInBounds_toArray, List.set_cons_zero, List.set_cons_succ])
              refine wpAnyH_take (i := 4) (v := ?_) rfl (by kernel_rfl) (by kernel_rfl) (by kernel_rfl) (fun _ _ _ h => h) (Or.inl ⟨by rfl, ?_⟩) (by assumption) ?_
              rotate_left
              (focus (intro w hSw; (try dsimp only at hSw); go_simp; (try with_reducible rfl)))
              (try simp only [Act.put, List.getElem_toArray, List.getElem_cons_succ, List.getElem_cons_zero, List.setIfInBounds_toArray, List.set_cons_zero, List.set_cons_succ])
              refine wpAnyH_take (i := 5) (v := ?_) rfl (by kernel_rfl) (by kernel_rfl) (by kernel_rfl) (fun _ _ _ h => h) (Or.inl ⟨by rfl, ?_⟩) (by assumption) ?_
              rotate_left
              (focus (intro w hSw; (try dsimp only at hSw); go_simp; (try with_reducible rfl)))
              (try simp only [Act.put, List.getElem_toArray, List.getElem_cons_succ, List.getElem_cons_zero, List.setIfInBounds_toArray, List.set_cons_zero, List.set_cons_succ])
              refine wpAnyH_take (i := 6) (v := ?_) rfl (by kernel_rfl) (by kernel_rfl) (by kernel_rfl) (fun _ _ _ h => h) (Or.inl ⟨by rfl, ?_⟩) (by assumption) ?_
              rotate_left
              (focus (intro w hSw; (try dsimp only at hSw); go_simp; (try with_reducible rfl)))
              (try simp only [Act.put, List.getElem_toArray, List.getElem_cons_succ, List.getElem_cons_zero, List.setIfInBounds_toArray, List.set_cons_zero, List.set_cons_succ])
              refine wpAnyH_take (i := 7) (v := ?_) rfl (by kernel_rfl) (by kernel_rfl) (by kernel_rfl) (fun _ _ _ h => h) (Or.inl ⟨by rfl, ?_⟩) (by assumption) ?_
              rotate_left
              (focus (intro w hSw; (try dsimp only at hSw); go_simp; (try with_reducible rfl)))
              (try simp only [Act.put, List.getElem_toArray, List.getElem_cons_succ, List.getElem_cons_zero, List.setIfInBounds_toArray, List.set_cons_zero, List.set_cons_succ])
              refine wpAnyH_take (i := 8) (v := ?_) rfl (by kernel_rfl) (by kernel_rfl) (by kernel_rfl) (fun _ _ _ h => h) (Or.inl ⟨by rfl, ?_⟩) (by assumption) ?_
              rotate_left
              (focus (intro w hSw; (try dsimp only at hSw); go_simp; (try with_reducible rfl)))
              (try simp only [Act.put, List.getElem_toArray, List.getElem_cons_succ, List.getElem_cons_zero, List.setIfInBounds_toArray, List.set_cons_zero, List.set_cons_succ])
              refine wpAnyH_take (i := 9) (v := ?_) rfl (by kernel_rfl) (by kernel_rfl) (by kernel_rfl) (fun _ _ _ h => h) (Or.inl ⟨by rfl, ?_⟩) (by assumption) ?_
              rotate_left
              (focus (intro w hSw; (try dsimp only at hSw); go_simp; (try with_reducible rfl)))
              (try simp only [Act.put, List.getElem_toArray, List.getElem_cons_succ, List.getElem_cons_zero, List.setIfInBounds_toArray, List.set_cons_zero, List.set_cons_succ])
              refine wpAnyH_take (i := 10) (v := ?_) rfl (by kernel_rfl) (by kernel_rfl) (by kernel_rfl) (fun _ _ _ h => h) (Or.inl ⟨by rfl, ?_⟩) (by assumption) ?_
              rotate_left
              (focus (intro w hSw; (try dsimp only at hSw); go_simp; (try with_reducible rfl)))
              (try simp only [Act.put, List.getElem_toArray, List.getElem_cons_succ, List.getElem_cons_zero, List.setIfInBounds_toArray, List.set_cons_zero, List.set_cons_succ])
              refine wpAnyH_take (i := 11) (v := ?_) rfl (by kernel_rfl) (by kernel_rfl) (by kernel_rfl) (fun _ _ _ h => h) (Or.inl ⟨by rfl, ?_⟩) (by assumption) ?_
              rotate_left
              (focus (intro w hSw; (try dsimp only at hSw); go_simp; (try with_reducible rfl)))
              (try simp only [Act.put, List.getElem_toArray, List.getElem_cons_succ, List.getElem_cons_zero, List.setIfInBounds_toArray, List.set_cons_zero, List.set_cons_succ])
              refine wpAnyH_take (i := 12) (v := ?_) rfl (by kernel_rfl) (by kernel_rfl) (by kernel_rfl) (fun _ _ _ h => h) (Or.inl ⟨by rfl, ?_⟩) (by assumption) ?_
              rotate_left
              (focus (intro w hSw; (try dsimp only at hSw); go_simp; (try with_reducible rfl)))
              (try simp only [Act.put, List.getElem_toArray, List.getElem_cons_succ, List.getElem_cons_zero, List.setIfInBounds_toArray, List.set_cons_zero, List.set_cons_succ])
              refine wpAnyH_take (i := 13) (v := ?_) rfl (by kernel_rfl) (by kernel_rfl) (by kernel_rfl) (fun _ _ _ h => h) (Or.inl ⟨by rfl, ?_⟩) (by assumption) ?_
              rotate_left
              (focus (intro w hSw; (try dsimp only at hSw); go_simp; (try with_reducible rfl)))
              (try simp only [Act.put, List.getElem_toArray, List.getElem_cons_succ, List.getElem_cons_zero, List.setIfInBounds_toArray, List.set_cons_zero, List.set_cons_succ])
              refine wpAnyH_ready (rs := [1, 14]) (by kernel_rfl) (by simp) ?_
              refine AllReadyH.cons rfl (fun Kp hK => ?_) (AllReadyH.cons rfl (fun Kp hK => ?_) AllReadyH.nil)
              · skip
                go_simp
                refine hK.out _ _ (show _ from ⟨⟨(K0.out.tf.one 9 (by omega)).1, (K0.out.tf.one 9 (by omega)).2.1, (K0.out.tf.one 9 (by omega)).2.2⟩, ⟨(K0.out.tf.two 1 (by omega)).1, (K0.out.tf.two 1 (by omega)).2.1, (K0.out.tf.two 1 (by omega)).2.2⟩⟩) (fun hHeld => ?_)
                clear hK Kp
                (try simp only [Act.put, List.getElem_toArray, List.getElem_cons_succ, List.getElem_cons_zero, List.setIfInBounds_toArray, List.set_cons_zero, List.set_cons_succ])
                refine wpAnyH_ready (rs := [14]) (by kernel_rfl) (by simp) ?_
                refine AllReadyH.cons rfl (fun Kp hK => ?_) AllReadyH.nil
                go_simp
                go_at_call 80
                (with_reducible refine (stimes_any (w.heap.size + 1 + 1 + 1) false (t.get 9) (v.get 1) _ (by have := K0.out.tf.size; have := o.hP; omega) K0.out.tf.cell K0.out.tf.free).mono ?_)
                rintro e w6 ho
                rw [e1] at ho
                obtain ⟨rfl, hs⟩ : e = .returned (.agg #[.int .i64 (Pd 2 1).re, .int .i64 (Pd 2 1).im, .int .i64 (Pd 2 1).den]) ∧ Sm (w.heap.size + 1 + 1 + 1) false _ _ := ho.fn
                have hzw6 := hs.size
                (try simp at hzw6)
                have K6 := Lib.hid (K0.out.sm o hs)
                clear ho hs
                refine hK.out _ _ (show _ from ⟨⟨(K6.out.tf.one 9 (by omega)).1, (K6.out.tf.one 9 (by omega)).2.1, (K6.out.tf.one 9 (by omega)).2.2⟩, ⟨(K6.out.tf.two 1 (by omega)).1, (K6.out.tf.two 1 (by omega)).2.1, (K6.out.tf.two 1 (by omega)).2.2⟩⟩) (fun hHeld => ?_)
                clear hK Kp
                (try simp only [Act.put, List.getElem_toArray, List.getElem_cons_succ, List.getElem_cons_zero, List.setIfInBounds_toArray, List.set_cons_zero, List.set_cons_succ])
                refine wpAnyH_ready (rs := [15]) (by kernel_rfl) (by simp) ?_
                refine AllReadyH.cons rfl (fun Kp hK => ?_) AllReadyH.nil
                go_simp
                go_at_call 77
                (with_reducible refine (sadd_any (w.heap.size + 1 + 1 + 1) false (Ac 2 1) (Pd 2 1) _ (by have := K6.out.tf.size; have := o.hP; omega) K6.out.tf.cell K6.out.tf.free).mono ?_)
                rintro e w7 ho
                rw [e2] at ho
                obtain ⟨rfl, hs⟩ : e = .returned (.agg #[.int .i64 (Ac 2 2).re, .int .i64 (Ac 2 2).im, .int .i64 (Ac 2 2).den]) ∧ Sm (w.heap.size + 1 + 1 + 1) false _ _ := ho.fn
                have hzw7 := hs.size
                (try simp at hzw7)
                have K7 := Lib.hid (K6.out.sm o hs)
                clear ho hs
                refine hK.out _ _ (show _ from ⟨⟨(K7.out.tf.one 9 (by omega)).1, (K7.out.tf.one 9 (by omega)).2.1, (K7.out.tf.one 9 (by omega)).2.2⟩, ⟨(K7.out.tf.two 1 (by omega)).1, (K7.out.tf.two 1 (by omega)).2.1, (K7.out.tf.two 1 (by omega)).2.2⟩⟩) (fun hHeld => ?_)
                clear hK Kp
                (try simp only [Act.put, List.getElem_toArray, List.getElem_cons_succ, List.getElem_cons_zero, List.setIfInBounds_toArray, List.set_cons_zero, List.set_cons_succ])
                obtain ⟨y0, q0⟩ := Option.isSome_iff_exists.1 (K7.out.room 0 (by omega)).1
                have fq0 := (K7.out.room 0 (by omega)).2
                obtain ⟨y1, q1⟩ := Option.isSome_iff_exists.1 (K7.out.room 1 (by omega)).1
                have fq1 := (K7.out.room 1 (by omega)).2
                obtain ⟨y2, q2⟩ := Option.isSome_iff_exists.1 (K7.out.room 2 (by omega)).1
                have fq2 := (K7.out.room 2 (by omega)).2
                refine wpAnyH_ready (rs := [16]) (by kernel_rfl) (by simp) ?_
                refine AllReadyH.cons rfl (fun Kp hK => ?_) AllReadyH.nil
                go_simp
                refine hK.out _ _ (show _ from ⟨⟨((K7.out.put o (Ac 2 2)).tf.one 9 (by omega)).1, ((K7.out.put o (Ac 2 2)).tf.one 9 (by omega)).2.1, ((K7.out.put o (Ac 2 2)).tf.one 9 (by omega)).2.2⟩, ⟨((K7.out.put o (Ac 2 2)).tf.two 1 (by omega)).1, ((K7.out.put o (Ac 2 2)).tf.two 1 (by omega)).2.1, ((K7.out.put o (Ac 2 2)).tf.two 1 (by omega)).2.2⟩⟩) (fun hHeld => ?_)
                clear hK Kp
                (try simp only [Act.put, List.getElem_toArray, List.getElem_cons_succ, List.getElem_cons_zero, List.setIfInBounds_toArray, List.set_cons_zero, List.set_cons_succ])
                refine wpAnyH_done (by kernel_rfl) ?_ _
                clear hHeld
                go_wp2
                go_roundw
                case rel =>
                  refine ⟨_, _, _, _, _, _, _, _, _, _, _, _, _, _, _, _, _, _, _, _, _, ⟨2, ?_, by omega, by omega, K7.out.put o _⟩, rfl⟩
                  first | rfl | go_num
                case measure => simp [intOf]
              · skip
                go_simp
                go_at_call 80
                (with_reducible refine (stimes_any (w.heap.size + 1 + 1 + 1) false (t.get 9) (v.get 1) _ (by have := K0.out.tf.size; have := o.hP; omega) K0.out.tf.cell K0.out.tf.free).mono ?_)
                rintro e w6 ho
                rw [e1] at ho
                obtain ⟨rfl, hs⟩ : e = .returned (.agg #[.int .i64 (Pd 2 1).re, .int .i64 (Pd 2 1).im, .int .i64 (Pd 2 1).den]) ∧ Sm (w.heap.size + 1 + 1 + 1) false _ _ := ho.fn
                have hzw6 := hs.size
                (try simp at hzw6)
                have K6 := Lib.hid (K0.out.sm o hs)
                clear ho hs
                obtain ⟨u0, u1, u2⟩ := K6.out.box.f3
                refine hK.out _ _ (show _ from ⟨⟨(K6.out.tf.one 9 (by omega)).1, (K6.out.tf.one 9 (by omega)).2.1, (K6.out.tf.one 9 (by omega)).2.2⟩, ⟨(K6.out.tf.two 1 (by omega)).1, (K6.out.tf.two 1 (by omega)).2.1, (K6.out.tf.two 1 (by omega)).2.2⟩⟩) (fun hHeld => ?_)
                clear hK Kp
                (try simp only [Act.put, List.getElem_toArray, List.getElem_cons_succ, List.getElem_cons_zero, List.setIfInBounds_toArray, List.set_cons_zero, List.set_cons_succ])
                refine wpAnyH_ready (rs := [1]) (by kernel_rfl) (by simp) ?_
                refine AllReadyH.cons rfl (fun Kp hK => ?_) AllReadyH.nil
                go_simp
                refine hK.out _ _ (show _ from ⟨⟨(K6.out.tf.one 9 (by omega)).1, (K6.out.tf.one 9 (by omega)).2.1, (K6.out.tf.one 9 (by omega)).2.2⟩, ⟨(K6.out.tf.two 1 (by omega)).1, (K6.out.tf.two 1 (by omega)).2.1, (K6.out.tf.two 1 (by omega)).2.2⟩⟩) (fun hHeld => ?_)
                clear hK Kp
                (try simp only [Act.put, List.getElem_toArray, List.getElem_cons_succ, List.getElem_cons_zero, List.setIfInBounds_toArray, List.set_cons_zero, List.set_cons_succ])
                refine wpAnyH_ready (rs := [15]) (by kernel_rfl) (by simp) ?_
                refine AllReadyH.cons rfl (fun Kp hK => ?_) AllReadyH.nil
                go_simp
                go_at_call 77
                (with_reducible refine (sadd_any (w.heap.size + 1 + 1 + 1) false (Ac 2 1) (Pd 2 1) _ (by have := K6.out.tf.size; have := o.hP; omega) K6.out.tf.cell K6.out.tf.free).mono ?_)
                rintro e w7 ho
                rw [e2] at ho
                obtain ⟨rfl, hs⟩ : e = .returned (.agg #[.int .i64 (Ac 2 2).re, .int .i64 (Ac 2 2).im, .int .i64 (Ac 2 2).den]) ∧ Sm (w.heap.size + 1 + 1 + 1) false _ _ := ho.fn
                have hzw7 := hs.size
                (try simp at hzw7)
                have K7 := Lib.hid (K6.out.sm o hs)
                clear ho hs
                refine hK.out _ _ (show _ from ⟨⟨(K7.out.tf.one 9 (by omega)).1, (K7.out.tf.one 9 (by omega)).2.1, (K7.out.tf.one 9 (by omega)).2.2⟩, ⟨(K7.out.tf.two 1 (by omega)).1, (K7.out.tf.two 1 (by omega)).2.1, (K7.out.tf.two 1 (by omega)).2.2⟩⟩) (fun hHeld => ?_)
                clear hK Kp
                (try simp only [Act.put, List.getElem_toArray, List.getElem_cons_succ, List.getElem_cons_zero, List.setIfInBounds_toArray, List.set_cons_zero, List.set_cons_succ])
                obtain ⟨y0, q0⟩ := Option.isSome_iff_exists.1 (K7.out.room 0 (by omega)).1
                have fq0 := (K7.out.room 0 (by omega)).2
                obtain ⟨y1, q1⟩ := Option.isSome_iff_exists.1 (K7.out.room 1 (by omega)).1
                have fq1 := (K7.out.room 1 (by omega)).2
                obtain ⟨y2, q2⟩ := Option.isSome_iff_exists.1 (K7.out.room 2 (by omega)).1
                have fq2 := (K7.out.room 2 (by omega)).2
                refine wpAnyH_ready (rs := [16]) (by kernel_rfl) (by simp) ?_
                refine AllReadyH.cons rfl (fun Kp hK => ?_) AllReadyH.nil
                go_simp
                refine hK.out _ _ (show _ from ⟨⟨((K7.out.put o (Ac 2 2)).tf.one 9 (by omega)).1, ((K7.out.put o (Ac 2 2)).tf.one 9 (by omega)).2.1, ((K7.out.put o (Ac 2 2)).tf.one 9 (by omega)).2.2⟩, ⟨((K7.out.put o (Ac 2 2)).tf.two 1 (by omega)).1, ((K7.out.put o (Ac 2 2)).tf.two 1 (by omega)).2.1, ((K7.out.put o (Ac 2 2)).tf.two 1 (by omega)).2.2⟩⟩) (fun hHeld => ?_)
                clear hK Kp
                (try simp only [Act.put, List.getElem_toArray, List.getElem_cons_succ, List.getElem_cons_zero, List.setIfInBounds_toArray, List.set_cons_zero, List.set_cons_succ])
                refine wpAnyH_done (by kernel_rfl) ?_ _
                clear hHeld
                go_wp2
                go_roundw
                case rel =>
                  refine ⟨_, _, _, _, _, _, _, _, _, _, _, _, _, _, _, _, _, _, _, _, _, ⟨2, ?_, by omega, by omega, K7.out.put o _⟩, rfl⟩
                  first | rfl | go_num
                case measure => simp [intOf]
            · skip
              have e1 : fTimes (t.get 10) (v.get 2) = (Pd 2 2, true) := hp 2 2 (by omega) (by omega) (by omega)
              have e2 : fAdd (Ac 2 2) (Pd 2 2) = (Ac 2 3, true) := ha 2 2 (by omega) (by omega) (by omega)
              have W4 : IntKind.i64.wrap 8 = 8 := by decide
              have W5 : IntKind.i64.wrap 10 = 10 := by decide
              go_upto_region 10 with fail
              have K0 := Lib.hid hX.drew
              obtain ⟨x0, x1, x2⟩ := (show BoxAt (World.drew _) X (fun _ => Ac 2 2) 1 from K0.out.box).f3
              refine wp_region_held_drew (S := (fun w' => (w'.cell? ⟨w.heap.size, 30, none⟩ = some (.int .i64 (t.get 10).re) ∧ w'.cell? ⟨w.heap.size, 31, none⟩ = some (.int .i64 (t.get 10).im) ∧ w'.cell? ⟨w.heap.size, 32, none⟩ = some (.int .i64 (t.get 10).den)) ∧ (w'.cell? ⟨w.heap.size + 1, 6, none⟩ = some (.int .i64 (v.get 2).re) ∧ w'.cell? ⟨w.heap.size + 1, 7, none⟩ = some (.int .i64 (v.get 2).im) ∧ w'.cell? ⟨w.heap.size + 1, 8, none⟩ = some (.int .i64 (v.get 2).den)))) (by kernel_rfl) (show _ from ⟨⟨(K0.out.tf.one 10 (by omega)).1, (K0.out.tf.one 10 (by omega)).2.1, (K0.out.tf.one 10 (by omega)).2.2⟩, ⟨(K0.out.tf.two 2 (by omega)).1, (K0.out.tf.two 2 (by omega)).2.1, (K0.out.tf.two 2 (by omega)).2.2⟩⟩) (fun hHeld => ?_)
              refine wpAnyH_take (i := 0) (v := ?_) rfl (by kernel_rfl) (by kernel_rfl) (by kernel_rfl) (fun _ _ _ h => h) (Or.inl ⟨by rfl, ?_⟩) (by assumption) ?_
              rotate_left
              (focus (intro w hSw; (try dsimp only at hSw); go_simp; (try with_reducible rfl)))
              (try simp only [Act.put, List.getElem_toArray, List.getElem_cons_zero, List.setIfInBounds_toArray, List.set_cons_zero, List.set_cons_succ])
              refine wpAnyH_take (i := 2) (v := ?_) rfl (by kernel_rfl) (by kernel_rfl) (by kernel_rfl) (fun _ _ _ h => h) (Or.inl ⟨by rfl, ?_⟩) (by assumption) ?_
              rotate_left
              (focus (intro w hSw; (try dsimp only at hSw); go_simp; (try with_reducible rfl)))
              (try simp only [Act.put, List.getElem_toArray, List.getElem_cons_succ, List.getElem_cons_zero, List.setIfInBounds_toArray, List.set_cons_zero, List.set_cons_succ])
              refine wpAnyH_take (i := 3) (v := ?_) rfl (by kernel_rfl) (by kernel_rfl) (by kernel_rfl) (fun _ _ _ h => h) (Or.inl ⟨by rfl, ?_⟩) (by assumption) ?_
              rotate_left
              (focus (intro w hSw; (try dsimp only at hSw); go_simp; (try with_reducible rfl)))
              (try simp only [Act.put, List.getElem_toArray, List.getElem_cons_succ, List.getElem_cons_zero, List.setIfInBounds_toArray, List.set_cons_zero, List.set_cons_succ])
              refine wpAnyH_take (i := 4) (v := ?_) rfl (by kernel_rfl) (by kernel_rfl) (by kernel_rfl) (fun _ _ _ h => h) (Or.inl ⟨by rfl, ?_⟩) (by assumption) ?_
              rotate_left
              (focus (intro w hSw; (try dsimp only at hSw); go_simp; (try with_reducible rfl)))
              (try simp only [Act.put, List.getElem_toArray, List.getElem_cons_succ, List.getElem_cons_zero, List.setIfInBounds_toArray, List.set_cons_zero, List.set_cons_succ])
              refine wpAnyH_take (i := 5) (v := ?_) rfl (by kernel_rfl) (by kernel_rfl) (by kernel_rfl) (fun _ _ _ h => h) (Or.inl ⟨by rfl, ?_⟩) (by assumption) ?_
              rotate_left
              (focus (intro w hSw; (try dsimp only at hSw); go_simp; (try with_reducible rfl)))
              (try simp only [Act.put, List.getElem_toArray, List.getElem_cons_succ, List.getElem_cons_zero, List.setIfInBounds_toArray, List.set_cons_zero, List.set_cons_succ])
              refine wpAnyH_take (i := 6) (v := ?_) rfl (by kernel_rfl) (by kernel_rfl) (by kernel_rfl) (fun _ _ _ h => h) (Or.inl ⟨by rfl, ?_⟩) (by assumption) ?_
              rotate_left
              (focus (intro w hSw; (try dsimp only at hSw); go_simp; (try with_reducible rfl)))
              (try simp only [Act.put, List.getElem_toArray, List.getElem_cons_succ, List.getElem_cons_zero, List.setIfInBounds_toArray, List.set_cons_zero, List.set_cons_succ])
              refine wpAnyH_take (i := 7) (v := ?_) rfl (by kernel_rfl) (by kernel_rfl) (by kernel_rfl) (fun _ _ _ h => h) (Or.inl ⟨by rfl, ?_⟩) (by assumption) ?_
              rotate_left
              (focus (intro w hSw; (try dsimp only at hSw); go_simp; (try with_reducible rfl)))
              (try simp only [Act.put, List.getElem_toArray, List.getElem_cons_succ, List.getElem_cons_zero, List.setIfInBounds_toArray, List.set_cons_zero, List.set_cons_succ])
              refine wpAnyH_take (i := 8) (v := ?_) rfl (by kernel_rfl) (by kernel_rfl) (by kernel_rfl) (fun _ _ _ h => h) (Or.inl ⟨by rfl, ?_⟩) (by assumption) ?_
              rotate_left
              (focus (intro w hSw; (try dsimp only at hSw); go_simp; (try with_reducible rfl)))
              (try simp only [Act.put, List.getElem_toArray, List.getElem_cons_succ, List.getElem_cons_zero, List.setIfInBounds_toArray, List.set_cons_zero, List.set_cons_succ])
              refine wpAnyH_take (i := 9) (v := ?_) rfl (by kernel_rfl) (by kernel_rfl) (by kernel_rfl) (fun _ _ _ h => h) (Or.inl ⟨by rfl, ?_⟩) (by assumption) ?_
              rotate_left
              (focus (intro w hSw; (try dsimp only at hSw); go_simp; (try with_reducible rfl)))
              (try simp only [Act.put, List.getElem_toArray, List.getElem_cons_succ, List.getElem_cons_zero, List.setIfInBounds_toArray, List.set_cons_zero, List.set_cons_succ])
              refine wpAnyH_take (i := 10) (v := ?_) rfl (by kernel_rfl) (by kernel_rfl) (by kernel_rfl) (fun _ _ _ h => h) (Or.inl ⟨by rfl, ?_⟩) (by assumption) ?_
              rotate_left
              (focus (intro w hSw; (try dsimp only at hSw); go_simp; (try with_reducible rfl)))
              (try simp only [Act.put, List.getElem_toArray, List.getElem_cons_succ, List.getElem_cons_zero, List.setIfInBounds_toArray, List.set_cons_zero, List.set_cons_succ])
              refine wpAnyH_take (i := 11) (v := ?_) rfl (by kernel_rfl) (by kernel_rfl) (by kernel_rfl) (fun _ _ _ h => h) (Or.inl ⟨by rfl, ?_⟩) (by assumption) ?_
              rotate_left
              (focus (intro w hSw; (try dsimp only at hSw); go_simp; (try with_reducible rfl)))
              (try simp only [Act.put, List.getElem_toArray, List.getElem_cons_succ, List.getElem_cons_zero, List.setIfInBounds_toArray, List.set_cons_zero, List.set_cons_succ])
              refine wpAnyH_take (i := 12) (v := ?_) rfl (by kernel_rfl) (by kernel_rfl) (by kernel_rfl) (fun _ _ _ h => h) (Or.inl ⟨by rfl, ?_⟩) (by assumption) ?_
              rotate_left
              (focus (intro w hSw; (try dsimp only at hSw); go_simp; (try with_reducible rfl)))
              (try simp only [Act.put, List.getElem_toArray, List.getElem_cons_succ, List.getElem_cons_zero, List.setIfInBounds_toArray, List.set_cons_zero, List.set_cons_succ])
              refine wpAnyH_take (i := 13) (v := ?_) rfl (by kernel_rfl) (by kernel_rfl) (by kernel_rfl) (fun _ _ _ h => h) (Or.inl ⟨by rfl, ?_⟩) (by assumption) ?_
              rotate_left
              (focus (intro w hSw; (try dsimp only at hSw); go_simp; (try with_reducible rfl)))
              (try simp only [Act.put, List.getElem_toArray, List.getElem_cons_succ, List.getElem_cons_zero, List.setIfInBounds_toArray, List.set_cons_zero, List.set_cons_succ])
              refine wpAnyH_ready (rs := [1, 14]) (by kernel_rfl) (by simp) ?_
              refine AllReadyH.cons rfl (fun Kp hK => ?_) (AllReadyH.cons rfl (fun Kp hK => ?_) AllReadyH.nil)
              · skip
                go_simp
                refine hK.out _ _ (show _ from ⟨⟨(K0.out.tf.one 10 (by omega)).1, (K0.out.tf.one 10 (by omega)).2.1, (K0.out.tf.one 10 (by omega)).2.2⟩, ⟨(K0.out.tf.two 2 (by omega)).1, (K0.out.tf.two 2 (by omega)).2.1, (K0.out.tf.two 2 (by omega)).2.2⟩⟩) (fun hHeld => ?_)
                clear hK Kp
                (try simp only [Act.put, List.getElem_toArray, List.getElem_cons_succ, List.getElem_cons_zero, List.setIfInBounds_toArray, List.set_cons_zero, List.set_cons_succ])
                refine wpAnyH_ready (rs := [14]) (by kernel_rfl) (by simp) ?_
                refine AllReadyH.cons rfl (fun Kp hK => ?_) AllReadyH.nil
                go_simp
                go_at_call 80
                (with_reducible refine (stimes_any (w.heap.size + 1 + 1 + 1) false (t.get 10) (v.get 2) _ (by have := K0.out.tf.size; have := o.hP; omega) K0.out.tf.cell K0.out.tf.free).mono ?_)
                rintro e w6 ho
                rw [e1] at ho
                obtain ⟨rfl, hs⟩ : e = .returned (.agg #[.int .i64 (Pd 2 2).re, .int .i64 (Pd 2 2).im, .int .i64 (Pd 2 2).den]) ∧ Sm (w.heap.size + 1 + 1 + 1) false _ _ := ho.fn
                have hzw6 := hs.size
                (try simp at hzw6)
                have K6 := Lib.hid (K0.out.sm o hs)
                clear ho hs
                refine hK.out _ _ (show _ from ⟨⟨(K6.out.tf.one 10 (by omega)).1, (K6.out.tf.one 10 (by omega)).2.1, (K6.out.tf.one 10 (by omega)).2.2⟩, ⟨(K6.out.tf.two 2 (by omega)).1, (K6.out.tf.two 2 (by omega)).2.1, (K6.out.tf.two 2 (by omega)).2.2⟩⟩) (fun hHeld => ?_)
                clear hK Kp
                (try simp only [Act.put, List.getElem_toArray, List.getElem_cons_succ, List.getElem_cons_zero, List.setIfInBounds_toArray, List.set_cons_zero, List.set_cons_succ])
                refine wpAnyH_ready (rs := [15]) (by kernel_rfl) (by simp) ?_
                refine AllReadyH.cons rfl (fun Kp hK => ?_) AllReadyH.nil
                go_simp
                go_at_call 77
                (with_reducible refine (sadd_any (w.heap.size + 1 + 1 + 1) false (Ac 2 2) (Pd 2 2) _ (by have := K6.out.tf.size; have := o.hP; omega) K6.out.tf.cell K6.out.tf.free).mono ?_)
                rintro e w7 ho
                rw [e2] at ho
                obtain ⟨rfl, hs⟩ : e = .returned (.agg #[.int .i64 (Ac 2 3).re, .int .i64 (Ac 2 3).im, .int .i64 (Ac 2 3).den]) ∧ Sm (w.heap.size + 1 + 1 + 1) false _ _ := ho.fn
                have hzw7 := hs.size
                (try simp at hzw7)
                have K7 := Lib.hid (K6.out.sm o hs)
                clear ho hs
                refine hK.out _ _ (show _ from ⟨⟨(K7.out.tf.one 10 (by omega)).1, (K7.out.tf.one 10 (by omega)).2.1, (K7.out.tf.one 10 (by omega)).2.2⟩, ⟨(K7.out.tf.two 2 (by omega)).1, (K7.out.tf.two 2 (by omega)).2.1, (K7.out.tf.two 2 (by omega)).2.2⟩⟩) (fun hHeld => ?_)
                clear hK Kp
                (try simp only [Act.put, List.getElem_toArray, List.getElem_cons_succ, List.getElem_cons_zero, List.setIfInBounds_toArray, List.set_cons_zero, List.set_cons_succ])
                obtain ⟨y0, q0⟩ := Option.isSome_iff_exists.1 (K7.out.room 0 (by omega)).1
                have fq0 := (K7.out.room 0 (by omega)).2
                obtain ⟨y1, q1⟩ := Option.isSome_iff_exists.1 (K7.out.room 1 (by omega)).1
                have fq1 := (K7.out.room 1 (by omega)).2
                obtain ⟨y2, q2⟩ := Option.isSome_iff_exists.1 (K7.out.room 2 (by omega)).1
                have fq2 := (K7.out.room 2 (by omega)).2
                refine wpAnyH_ready (rs := [16]) (by kernel_rfl) (by simp) ?_
                refine AllReadyH.cons rfl (fun Kp hK => ?_) AllReadyH.nil
                go_simp
                refine hK.out _ _ (show _ from ⟨⟨((K7.out.put o (Ac 2 3)).tf.one 10 (by omega)).1, ((K7.out.put o (Ac 2 3)).tf.one 10 (by omega)).2.1, ((K7.out.put o (Ac 2 3)).tf.one 10 (by omega)).2.2⟩, ⟨((K7.out.put o (Ac 2 3)).tf.two 2 (by omega)).1, ((K7.out.put o (Ac 2 3)).tf.two 2 (by omega)).2.1, ((K7.out.put o (Ac 2 3)).tf.two 2 (by omega)).2.2⟩⟩) (fun hHeld => ?_)
                clear hK Kp
                (try simp only [Act.put, List.getElem_toArray, List.getElem_cons_succ, List.getElem_cons_zero, List.setIfInBounds_toArray, List.set_cons_zero, List.set_cons_succ])
                refine wpAnyH_done (by kernel_rfl) ?_ _
                clear hHeld
                go_wp2
                go_roundw
                case rel =>
                  refine ⟨_, _, _, _, _, _, _, _, _, _, _, _, _, _, _, _, _, _, _, _, _, ⟨3, ?_, by omega, by omega, K7.out.put o _⟩, rfl⟩
                  first | rfl | go_num
                case measure => simp [intOf]
              · skip
                go_simp
                go_at_call 80
                (with_reducible refine (stimes_any (w.heap.size + 1 + 1 + 1) false (t.get 10) (v.get 2) _ (by have := K0.out.tf.size; have := o.hP; omega) K0.out.tf.cell K0.out.tf.free).mono ?_)
                rintro e w6 ho
                rw [e1] at ho
                obtain ⟨rfl, hs⟩ : e = .returned (.agg #[.int .i64 (Pd 2 2).re, .int .i64 (Pd 2 2).im, .int .i64 (Pd 2 2).den]) ∧ Sm (w.heap.size + 1 + 1 + 1) false _ _ := ho.fn
                have hzw6 := hs.size
                (try simp at hzw6)
                have K6 := Lib.hid (K0.out.sm o hs)
                clear ho hs
                obtain ⟨u0, u1, u2⟩ := K6.out.box.f3
                refine hK.out _ _ (show _ from ⟨⟨(K6.out.tf.one 10 (by omega)).1, (K6.out.tf.one 10 (by omega)).2.1, (K6.out.tf.one 10 (by omega)).2.2⟩, ⟨(K6.out.tf.two 2 (by omega)).1, (K6.out.tf.two 2 (by omega)).2.1, (K6.out.tf.two 2 (by omega)).2.2⟩⟩) (fun hHeld => ?_)
                clear hK Kp
                (try simp only [Act.put, List.getElem_toArray, List.getElem_cons_succ, List.getElem_cons_zero, List.setIfInBounds_toArray, List.set_cons_zero, List.set_cons_succ])
                refine wpAnyH_ready (rs := [1]) (by kernel_rfl) (by simp) ?_
                refine AllReadyH.cons rfl (fun Kp hK => ?_) AllReadyH.nil
                go_simp
                refine hK.out _ _ (show _ from ⟨⟨(K6.out.tf.one 10 (by omega)).1, (K6.out.tf.one 10 (by omega)).2.1, (K6.out.tf.one 10 (by omega)).2.2⟩, ⟨(K6.out.tf.two 2 (by omega)).1, (K6.out.tf.two 2 (by omega)).2.1, (K6.out.tf.two 2 (by omega)).2.2⟩⟩) (fun hHeld => ?_)
                clear hK Kp
                (try simp only [Act.put, List.getElem_toArray, List.getElem_cons_succ, List.getElem_cons_zero, List.setIfInBounds_toArray, List.set_cons_zero, List.set_cons_succ])
                refine wpAnyH_ready (rs := [15]) (by kernel_rfl) (by simp) ?_
                refine AllReadyH.cons rfl (fun Kp hK => ?_) AllReadyH.nil
                go_simp
                go_at_call 77
                (with_reducible refine (sadd_any (w.heap.size + 1 + 1 + 1) false (Ac 2 2) (Pd 2 2) _ (by have := K6.out.tf.size; have := o.hP; omega) K6.out.tf.cell K6.out.tf.free).mono ?_)
                rintro e w7 ho
                rw [e2] at ho
                obtain ⟨rfl, hs⟩ : e = .returned (.agg #[.int .i64 (Ac 2 3).re, .int .i64 (Ac 2 3).im, .int .i64 (Ac 2 3).den]) ∧ Sm (w.heap.size + 1 + 1 + 1) false _ _ := ho.fn
                have hzw7 := hs.size
                (try simp at hzw7)
                have K7 := Lib.hid (K6.out.sm o hs)
                clear ho hs
                refine hK.out _ _ (show _ from ⟨⟨(K7.out.tf.one 10 (by omega)).1, (K7.out.tf.one 10 (by omega)).2.1, (K7.out.tf.one 10 (by omega)).2.2⟩, ⟨(K7.out.tf.two 2 (by omega)).1, (K7.out.tf.two 2 (by omega)).2.1, (K7.out.tf.two 2 (by omega)).2.2⟩⟩) (fun hHeld => ?_)
                clear hK Kp
                (try simp only [Act.put, List.getElem_toArray, List.getElem_cons_succ, List.getElem_cons_zero, List.setIfInBounds_toArray, List.set_cons_zero, List.set_cons_succ])
                obtain ⟨y0, q0⟩ := Option.isSome_iff_exists.1 (K7.out.room 0 (by omega)).1
                have fq0 := (K7.out.room 0 (by omega)).2
                obtain ⟨y1, q1⟩ := Option.isSome_iff_exists.1 (K7.out.room 1 (by omega)).1
                have fq1 := (K7.out.room 1 (by omega)).2
                obtain ⟨y2, q2⟩ := Option.isSome_iff_exists.1 (K7.out.room 2 (by omega)).1
                have fq2 := (K7.out.room 2 (by omega)).2
                refine wpAnyH_ready (rs := [16]) (by kernel_rfl) (by simp) ?_
                refine AllReadyH.cons rfl (fun Kp hK => ?_) AllReadyH.nil
                go_simp
                refine hK.out _ _ (show _ from ⟨⟨((K7.out.put o (Ac 2 3)).tf.one 10 (by omega)).1, ((K7.out.put o (Ac 2 3)).tf.one 10 (by omega)).2.1, ((K7.out.put o (Ac 2 3)).tf.one 10 (by omega)).2.2⟩, ⟨((K7.out.put o (Ac 2 3)).tf.two 2 (by omega)).1, ((K7.out.put o (Ac 2 3)).tf.two 2 (by omega)).2.1, ((K7.out.put o (Ac 2 3)).tf.two 2 (by omega)).2.2⟩⟩) (fun hHeld => ?_)
                clear hK Kp
                (try simp only [Act.put, List.getElem_toArray, List.getElem_cons_succ, List.getElem_cons_zero, List.setIfInBounds_toArray, List.set_cons_zero, List.set_cons_succ])
                refine wpAnyH_done (by kernel_rfl) ?_ _
                clear hHeld
                go_wp2
                go_roundw
                case rel =>
                  refine ⟨_, _, _, _, _, _, _, _, _, _, _, _, _, _, _, _, _, _, _, _, _, ⟨3, ?_, by omega, by omega, K7.out.put o _⟩, rfl⟩
                  first | rfl | go_num
                case measure => simp [intOf]
            · skip
              have e1 : fTimes (t.get 11) (v.get 3) = (Pd 2 3, true) := hp 2 3 (by omega) (by omega) (by omega)
              have e2 : fAdd (Ac 2 3) (Pd 2 3) = (Ac 2 4, true) := ha 2 3 (by omega) (by omega) (by omega)
              have W4 : IntKind.i64.wrap 8 = 8 := by decide
              have W5 : IntKind.i64.wrap 11 = 11 := by decide
              go_upto_region 10 with fail
              have K0 := Lib.hid hX.drew
              obtain ⟨x0, x1, x2⟩ := (show BoxAt (World.drew _) X (fun _ => Ac 2 3) 1 from K0.out.box).f3
              refine wp_region_held_drew (S := (fun w' => (w'.cell? ⟨w.heap.size, 33, none⟩ = some (.int .i64 (t.get 11).re) ∧ w'.cell? ⟨w.heap.size, 34, none⟩ = some (.int .i64 (t.get 11).im) ∧ w'.cell? ⟨w.heap.size, 35, none⟩ = some (.int .i64 (t.get 11).den)) ∧ (w'.cell? ⟨w.heap.size + 1, 9, none⟩ = some (.int .i64 (v.get 3).re) ∧ w'.cell? ⟨w.heap.size + 1, 10, none⟩ = some (.int .i64 (v.get 3).im) ∧ w'.cell? ⟨w.heap.size + 1, 11, none⟩ = some (.int .i64 (v.get 3).den)))) (by kernel_rfl) (show _ from ⟨⟨(K0.out.tf.one 11 (by omega)).1, (K0.out.tf.one 11 (by omega)).2.1, (K0.out.tf.one 11 (by omega)).2.2⟩, ⟨(K0.out.tf.two 3 (by omega)).1, (K0.out.tf.two 3 (by omega)).2.1, (K0.out.tf.two 3 (by omega)).2.2⟩⟩) (fun hHeld => ?_)
              refine wpAnyH_take (i := 0) (v := ?_) rfl (by kernel_rfl) (by kernel_rfl) (by kernel_rfl) (fun _ _ _ h => h) (Or.inl ⟨by rfl, ?_⟩) (by assumption) ?_
              rotate_left
              (focus (intro w hSw; (try dsimp only at hSw); go_simp; (try with_reducible rfl)))
              (try simp only [Act.put, List.getElem_toArray, List.getElem_cons_zero, List.setIfInBounds_toArray, List.set_cons_zero, List.set_cons_succ])
              refine wpAnyH_take (i := 2) (v := ?_) rfl (by kernel_rfl) (by kernel_rfl) (by kernel_rfl) (fun _ _ _ h => h) (Or.inl ⟨by rfl, ?_⟩) (by assumption) ?_
              rotate_left
              (focus (intro w hSw; (try dsimp only at hSw); go_simp; (try with_reducible rfl)))
              (try simp only [Act.put, List.getElem_toArray, List.getElem_cons_succ, List.getElem_cons_zero, List.setIfInBounds_toArray, List.set_cons_zero, List.set_cons_succ])
              refine wpAnyH_take (i := 3) (v := ?_) rfl (by kernel_rfl) (by kernel_rfl) (by kernel_rfl) (fun _ _ _ h => h) (Or.inl ⟨by rfl, ?_⟩) (by assumption) ?_
              rotate_left
              (focus (intro w hSw; (try dsimp only at hSw); go_simp; (try with_reducible rfl)))
              (try simp only [Act.put, List.getElem_toArray, List.getElem_cons_succ, List.getElem_cons_zero, List.setIfInBounds_toArray, List.set_cons_zero, List.set_cons_succ])
              refine wpAnyH_take (i := 4) (v := ?_) rfl (by kernel_rfl) (by kernel_rfl) (by kernel_rfl) (fun _ _ _ h => h) (Or.inl ⟨by rfl, ?_⟩) (by assumption) ?_
              rotate_left
              (focus (intro w hSw; (try dsimp only at hSw); go_simp; (try with_reducible rfl)))
              (try simp only [Act.put, List.getElem_toArray, List.getElem_cons_succ, List.getElem_cons_zero, List.setIfInBounds_toArray, List.set_cons_zero, List.set_cons_succ])
              refine wpAnyH_take (i := 5) (v := ?_) rfl (by kernel_rfl) (by kernel_rfl) (by kernel_rfl) (fun _ _ _ h => h) (Or.inl ⟨by rfl, ?_⟩) (by assumption) ?_
              rotate_left
              (focus (intro w hSw; (try dsimp only at hSw); go_simp; (try with_reducible rfl)))
              (try simp only [Act.put, List.getElem_toArray, List.getElem_cons_succ, List.getElem_cons_zero, List.setIfInBounds_toArray, List.set_cons_zero, List.set_cons_succ])
              refine wpAnyH_take (i := 6) (v := ?_) rfl (by kernel_rfl) (by kernel_rfl) (by kernel_rfl) (fun _ _ _ h => h) (Or.inl ⟨by rfl, ?_⟩) (by assumption) ?_
              rotate_left
              (focus (intro w hSw; (try dsimp only at hSw); go_simp; (try with_reducible rfl)))
              (try simp only [Act.put, List.getElem_toArray, List.getElem_cons_succ, List.getElem_cons_zero, List.setIfInBounds_toArray, List.set_cons_zero, List.set_cons_succ])
              refine wpAnyH_take (i := 7) (v := ?_) rfl (by kernel_rfl) (by kernel_rfl) (by kernel_rfl) (fun _ _ _ h => h) (Or.inl ⟨by rfl, ?_⟩) (by assumption) ?_
              rotate_left
              (focus (intro w hSw; (try dsimp only at hSw); go_simp; (try with_reducible rfl)))
              (try simp only [Act.put, List.getElem_toArray, List.getElem_cons_succ, List.getElem_cons_zero, List.setIfInBounds_toArray, List.set_cons_zero, List.set_cons_succ])
              refine wpAnyH_take (i := 8) (v := ?_) rfl (by kernel_rfl) (by kernel_rfl) (by kernel_rfl) (fun _ _ _ h => h) (Or.inl ⟨by rfl, ?_⟩) (by assumption) ?_
              rotate_left
              (focus (intro w hSw; (try dsimp only at hSw); go_simp; (try with_reducible rfl)))
              (try simp only [Act.put, List.getElem_toArray, List.getElem_cons_succ, List.getElem_cons_zero, List.setIfInBounds_toArray, List.set_cons_zero, List.set_cons_succ])
              refine wpAnyH_take (i := 9) (v := ?_) rfl (by kernel_rfl) (by kernel_rfl) (by kernel_rfl) (fun _ _ _ h => h) (Or.inl ⟨by rfl, ?_⟩) (by assumption) ?_
              rotate_left
              (focus (intro w hSw; (try dsimp only at hSw); go_simp; (try with_reducible rfl)))
              (try simp only [Act.put, List.getElem_toArray, List.getElem_cons_succ, List.getElem_cons_zero, List.setIfInBounds_toArray, List.set_cons_zero, List.set_cons_succ])
              refine wpAnyH_take (i := 10) (v := ?_) rfl (by kernel_rfl) (by kernel_rfl) (by kernel_rfl) (fun _ _ _ h => h) (Or.inl ⟨by rfl, ?_⟩) (by assumption) ?_
              rotate_left
              (focus (intro w hSw; (try dsimp only at hSw); go_simp; (try with_reducible rfl)))
              (try simp only [Act.put, List.getElem_toArray, List.getElem_cons_succ, List.getElem_cons_zero, List.setIfInBounds_toArray, List.set_cons_zero, List.set_cons_succ])
              refine wpAnyH_take (i := 11) (v := ?_) rfl (by kernel_rfl) (by kernel_rfl) (by kernel_rfl) (fun _ _ _ h => h) (Or.inl ⟨by rfl, ?_⟩) (by assumption) ?_
              rotate_left
              (focus (intro w hSw; (try dsimp only at hSw); go_simp; (try with_reducible rfl)))
              (try simp only [Act.put, List.getElem_toArray, List.getElem_cons_succ, List.getElem_cons_zero, List.setIfInBounds_toArray, List.set_cons_zero, List.set_cons_succ])
              refine wpAnyH_take (i := 12) (v := ?_) rfl (by kernel_rfl) (by kernel_rfl) (by kernel_rfl) (fun _ _ _ h => h) (Or.inl ⟨by rfl, ?_⟩) (by assumption) ?_
              rotate_left
              (focus (intro w hSw; (try dsimp only at hSw); go_simp; (try with_reducible rfl)))
              (try simp only [Act.put, List.getElem_toArray, List.getElem_cons_succ, List.getElem_cons_zero, List.setIfInBounds_toArray, List.set_cons_zero, List.set_cons_succ])
              refine wpAnyH_take (i := 13) (v := ?_) rfl (by kernel_rfl) (by kernel_rfl) (by kernel_rfl) (fun _ _ _ h => h) (Or.inl ⟨by rfl, ?_⟩) (by assumption) ?_
              rotate_left
              (focus (intro w hSw; (try dsimp only at hSw); go_simp; (try with_reducible rfl)))
              (try simp only [Act.put, List.getElem_toArray, List.getElem_cons_succ, List.getElem_cons_zero, List.setIfInBounds_toArray, List.set_cons_zero, List.set_cons_succ])
              refine wpAnyH_ready (rs := [1, 14]) (by kernel_rfl) (by simp) ?_
              refine AllReadyH.cons rfl (fun Kp hK => ?_) (AllReadyH.cons rfl (fun Kp hK => ?_) AllReadyH.nil)
              · skip
                go_simp
                refine hK.out _ _ (show _ from ⟨⟨(K0.out.tf.one 11 (by omega)).1, (K0.out.tf.one 11 (by omega)).2.1, (K0.out.tf.one 11 (by omega)).2.2⟩, ⟨(K0.out.tf.two 3 (by omega)).1, (K0.out.tf.two 3 (by omega)).2.1, (K0.out.tf.two 3 (by omega)).2.2⟩⟩) (fun hHeld => ?_)
                clear hK Kp
                (try simp only [Act.put, List.getElem_toArray, List.getElem_cons_succ, List.getElem_cons_zero, List.setIfInBounds_toArray, List.set_cons_zero, List.set_cons_succ])
                refine wpAnyH_ready (rs := [14]) (by kernel_rfl) (by simp) ?_
                refine AllReadyH.cons rfl (fun Kp hK => ?_) AllReadyH.nil
                go_simp
                go_at_call 80
                (with_reducible refine (stimes_any (w.heap.size + 1 + 1 + 1) false (t.get 11) (v.get 3) _ (by have := K0.out.tf.size; have := o.hP; omega) K0.out.tf.cell K0.out.tf.free).mono ?_)
                rintro e w6 ho
                rw [e1] at ho
                obtain ⟨rfl, hs⟩ : e = .returned (.agg #[.int .i64 (Pd 2 3).re, .int .i64 (Pd 2 3).im, .int .i64 (Pd 2 3).den]) ∧ Sm (w.heap.size + 1 + 1 + 1) false _ _ := ho.fn
                have hzw6 := hs.size
                (try simp at hzw6)
                have K6 := Lib.hid (K0.out.sm o hs)
                clear ho hs
                refine hK.out _ _ (show _ from ⟨⟨(K6.out.tf.one 11 (by omega)).1, (K6.out.tf.one 11 (by omega)).2.1, (K6.out.tf.one 11 (by omega)).2.2⟩, ⟨(K6.out.tf.two 3 (by omega)).1, (K6.out.tf.two 3 (by omega)).2.1, (K6.out.tf.two 3 (by omega)).2.2⟩⟩) (fun hHeld => ?_)
                clear hK Kp
                (try simp only [Act.put, List.getElem_toArray, List.getElem_cons_succ, List.getElem_cons_zero, List.setIfInBounds_toArray, List.set_cons_zero, List.set_cons_succ])
                refine wpAnyH_ready (rs := [15]) (by kernel_rfl) (by simp) ?_
                refine AllReadyH.cons rfl (fun Kp hK => ?_) AllReadyH.nil
                go_simp
                go_at_call 77
                (with_reducible refine (sadd_any (w.heap.size + 1 + 1 + 1) false (Ac 2 3) (Pd 2 3) _ (by have := K6.out.tf.size; have := o.hP; omega) K6.out.tf.cell K6.out.tf.free).mono ?_)
                rintro e w7 ho
                rw [e2] at ho
                obtain ⟨rfl, hs⟩ : e = .returned (.agg #[.int .i64 (Ac 2 4).re, .int .i64 (Ac 2 4).im, .int .i64 (Ac 2 4).den]) ∧ Sm (w.heap.size + 1 + 1 + 1) false _ _ := ho.fn
                have hzw7 := hs.size
                (try simp at hzw7)
                have K7 := Lib.hid (K6.out.sm o hs)
                clear ho hs
                refine hK.out _ _ (show _ from ⟨⟨(K7.out.tf.one 11 (by omega)).1, (K7.out.tf.one 11 (by omega)).2.1, (K7.out.tf.one 11 (by omega)).2.2⟩, ⟨(K7.out.tf.two 3 (by omega)).1, (K7.out.tf.two 3 (by omega)).2.1, (K7.out.tf.two 3 (by omega)).2.2⟩⟩) (fun hHeld => ?_)
                clear hK Kp
                (try simp only [Act.put, List.getElem_toArray, List.getElem_cons_succ, List.getElem_cons_zero, List.setIfInBounds_toArray, List.set_cons_zero, List.set_cons_succ])
                obtain ⟨y0, q0⟩ := Option.isSome_iff_exists.1 (K7.out.room 0 (by omega)).1
                have fq0 := (K7.out.room 0 (by omega)).2
                obtain ⟨y1, q1⟩ := Option.isSome_iff_exists.1 (K7.out.room 1 (by omega)).1
                have fq1 := (K7.out.room 1 (by omega)).2
                obtain ⟨y2, q2⟩ := Option.isSome_iff_exists.1 (K7.out.room 2 (by omega)).1
                have fq2 := (K7.out.room 2 (by omega)).2
                refine wpAnyH_ready (rs := [16]) (by kernel_rfl) (by simp) ?_
                refine AllReadyH.cons rfl (fun Kp hK => ?_) AllReadyH.nil
                go_simp
                refine hK.out _ _ (show _ from ⟨⟨((K7.out.put o (Ac 2 4)).tf.one 11 (by omega)).1, ((K7.out.put o (Ac 2 4)).tf.one 11 (by omega)).2.1, ((K7.out.put o (Ac 2 4)).tf.one 11 (by omega)).2.2⟩, ⟨((K7.out.put o (Ac 2 4)).tf.two 3 (by omega)).1, ((K7.out.put o (Ac 2 4)).tf.two 3 (by omega)).2.1, ((K7.out.put o (Ac 2 4)).tf.two 3 (by omega)).2.2⟩⟩) (fun hHeld => ?_)
                clear hK Kp
                (try simp only [Act.put, List.getElem_toArray, List.getElem_cons_succ, List.getElem_cons_zero, List.setIfInBounds_toArray, List.set_cons_zero, List.set_cons_succ])
                refine wpAnyH_done (by kernel_rfl) ?_ _
                clear hHeld
                go_wp2
                go_roundw
                case rel =>
                  refine ⟨_, _, _, _, _, _, _, _, _, _, _, _, _, _, _, _, _, _, _, _, _, ⟨4, ?_, by omega, by omega, K7.out.put o _⟩, rfl⟩
                  first | rfl | go_num
                case measure => simp [intOf]
              · skip
                go_simp
                go_at_call 80
                (with_reducible refine (stimes_any (w.heap.size + 1 + 1 + 1) false (t.get 11) (v.get 3) _ (by have := K0.out.tf.size; have := o.hP; omega) K0.out.tf.cell K0.out.tf.free).mono ?_)
                rintro e w6 ho
                rw [e1] at ho
                obtain ⟨rfl, hs⟩ : e = .returned (.agg #[.int .i64 (Pd 2 3).re, .int .i64 (Pd 2 3).im, .int .i64 (Pd 2 3).den]) ∧ Sm (w.heap.size + 1 + 1 + 1) false _ _ := ho.fn
                have hzw6 := hs.size
                (try simp at hzw6)
                have K6 := Lib.hid (K0.out.sm o hs)
                clear ho hs
                obtain ⟨u0, u1, u2⟩ := K6.out.box.f3
                refine hK.out _ _ (show _ from ⟨⟨(K6.out.tf.one 11 (by omega)).1, (K6.out.tf.one 11 (by omega)).2.1, (K6.out.tf.one 11 (by omega)).2.2⟩, ⟨(K6.out.tf.two 3 (by omega)).1, (K6.out.tf.two 3 (by omega)).2.1, (K6.out.tf.two 3 (by omega)).2.2⟩⟩) (fun hHeld => ?_)
                clear hK Kp
                (try simp only [Act.put, List.getElem_toArray, List.getElem_cons_succ, List.getElem_cons_zero, List.setIfInBounds_toArray, List.set_cons_zero, List.set_cons_succ])
                refine wpAnyH_ready (rs := [1]) (by kernel_rfl) (by simp) ?_
                refine AllReadyH.cons rfl (fun Kp hK => ?_) AllReadyH.nil
                go_simp
                refine hK.out _ _ (show _ from ⟨⟨(K6.out.tf.one 11 (by omega)).1, (K6.out.tf.one 11 (by omega)).2.1, (K6.out.tf.one 11 (by omega)).2.2⟩, ⟨(K6.out.tf.two 3 (by omega)).1, (K6.out.tf.two 3 (by omega)).2.1, (K6.out.tf.two 3 (by omega)).2.2⟩⟩) (fun hHeld => ?_)
                clear hK Kp
                (try simp only [Act.put, List.getElem_toArray, List.getElem_cons_succ, List.getElem_cons_zero, List.setIfInBounds_toArray, List.set_cons_zero, List.set_cons_succ])
                refine wpAnyH_ready (rs := [15]) (by kernel_rfl) (by simp) ?_
                refine AllReadyH.cons rfl (fun Kp hK => ?_) AllReadyH.nil
                go_simp
                go_at_call 77
                (with_reducible refine (sadd_any (w.heap.size + 1 + 1 + 1) false (Ac 2 3) (Pd 2 3) _ (by have := K6.out.tf.size; have := o.hP; omega) K6.out.tf.cell K6.out.tf.free).mono ?_)
                rintro e w7 ho
                rw [e2] at ho
                obtain ⟨rfl, hs⟩ : e = .returned (.agg #[.int .i64 (Ac 2 4).re, .int .i64 (Ac 2 4).im, .int .i64 (Ac 2 4).den]) ∧ Sm (w.heap.size + 1 + 1 + 1) false _ _ := ho.fn
                have hzw7 := hs.size
                (try simp at hzw7)
                have K7 := Lib.hid (K6.out.sm o hs)
                clear ho hs
                refine hK.out _ _ (show _ from ⟨⟨(K7.out.tf.one 11 (by omega)).1, (K7.out.tf.one 11 (by omega)).2.1, (K7.out.tf.one 11 (by omega)).2.2⟩, ⟨(K7.out.tf.two 3 (by omega)).1, (K7.out.tf.two 3 (by omega)).2.1, (K7.out.tf.two 3 (by omega)).2.2⟩⟩) (fun hHeld => ?_)
                clear hK Kp
                (try simp only [Act.put, List.getElem_toArray, List.getElem_cons_succ, List.getElem_cons_zero, List.setIfInBounds_toArray, List.set_cons_zero, List.set_cons_succ])
                obtain ⟨y0, q0⟩ := Option.isSome_iff_exists.1 (K7.out.room 0 (by omega)).1
                have fq0 := (K7.out.room 0 (by omega)).2
                obtain ⟨y1, q1⟩ := Option.isSome_iff_exists.1 (K7.out.room 1 (by omega)).1
                have fq1 := (K7.out.room 1 (by omega)).2
                obtain ⟨y2, q2⟩ := Option.isSome_iff_exists.1 (K7.out.room 2 (by omega)).1
                have fq2 := (K7.out.room 2 (by omega)).2
                refine wpAnyH_ready (rs := [16]) (by kernel_rfl) (by simp) ?_
                refine AllReadyH.cons rfl (fun Kp hK => ?_) AllReadyH.nil
                go_simp
                refine hK.out _ _ (show _ from ⟨⟨((K7.out.put o (Ac 2 4)).tf.one 11 (by omega)).1, ((K7.out.put o (Ac 2 4)).tf.one 11 (by omega)).2.1, ((K7.out.put o (Ac 2 4)).tf.one 11 (by omega)).2.2⟩, ⟨((K7.out.put o (Ac 2 4)).tf.two 3 (by omega)).1, ((K7.out.put o (Ac 2 4)).tf.two 3 (by omega)).2.1, ((K7.out.put o (Ac 2 4)).tf.two 3 (by omega)).2.2⟩⟩) (fun hHeld => ?_)
                clear hK Kp
                (try simp only [Act.put, List.getElem_toArray, List.getElem_cons_succ, List.getElem_cons_zero, List.setIfInBounds_toArray, List.set_cons_zero, List.set_cons_succ])
                refine wpAnyH_done (by kernel_rfl) ?_ _
                clear hHeld
                go_wp2
                go_roundw
                case rel =>
                  refine ⟨_, _, _, _, _, _, _, _, _, _, _, _, _, _, _, _, _, _, _, _, _, ⟨4, ?_, by omega, by omega, K7.out.put o _⟩, rfl⟩
                  first | rfl | go_num
                case measure => simp [intOf]
          · obtain rfl : k = 4 := by omega
            clear hk1 hk4 h5
            obtain ⟨x0, x1, x2⟩ := hX.box.f3
            have hzO := hX.tf.size
            have hnX : ¬ X = w3.heap.size := by omega
            have hnX2 : ¬ w3.heap.size = X := by omega
            obtain ⟨y0, q0⟩ := Option.isSome_iff_exists.1 (hX.tf.room 6 (by omega)).1
            have fq0 := (hX.tf.room 6 (by omega)).2
            obtain ⟨y1, q1⟩ := Option.isSome_iff_exists.1 (hX.tf.room 7 (by omega)).1
            have fq1 := (hX.tf.room 7 (by omega)).2
            obtain ⟨y2, q2⟩ := Option.isSome_iff_exists.1 (hX.tf.room 8 (by omega)).1
            have fq2 := (hX.tf.room 8 (by omega)).2
            have HT := Lib.hid (hX.tf.put o (by omega))
            clear hX
            go_wp2
            go_roundw
            case rel => exact ⟨3, by first | rfl | go_num, HT.out⟩
            case measure => simp [intOf]
      · skip
        have e0 : fTimes (t.get 12) (v.get 0) = (Ac 3 1, true) := h0 3 (by omega)
        have W0 : IntKind.i64.wrap 12 = 12 := by decide
        go_upto_region 6 with fail
        go_cut [9] (fun s9 wx => ∃ X : Nat, s9 = .pointer (some ⟨X, 0, none⟩) ∧ TX w (w.heap.size) (w.heap.size + 1) (w.heap.size + 1 + 1) (w.heap.size + 1 + 1 + 1) w3.heap.size t.get v.get (fun j => Ac j 4) 3 X (Ac 3 1) wx)
        case first =>
          have K0 := Lib.hid hT.drew
          refine wp_region_held_drew (S := (fun w' => (w'.cell? ⟨w.heap.size, 36, none⟩ = some (.int .i64 (t.get 12).re) ∧ w'.cell? ⟨w.heap.size, 37, none⟩ = some (.int .i64 (t.get 12).im) ∧ w'.cell? ⟨w.heap.size, 38, none⟩ = some (.int .i64 (t.get 12).den)) ∧ (w'.cell? ⟨w.heap.size + 1, 0, none⟩ = some (.int .i64 (v.get 0).re) ∧ w'.cell? ⟨w.heap.size + 1, 1, none⟩ = some (.int .i64 (v.get 0).im) ∧ w'.cell? ⟨w.heap.size + 1, 2, none⟩ = some (.int .i64 (v.get 0).den)))) (by kernel_rfl) (show _ from ⟨⟨(K0.out.one 12 (by omega)).1, (K0.out.one 12 (by omega)).2.1, (K0.out.one 12 (by omega)).2.2⟩, ⟨(K0.out.two 0 (by omega)).1, (K0.out.two 0 (by omega)).2.1, (K0.out.two 0 (by omega)).2.2⟩⟩) (fun hHeld => ?_)
          refine wpAnyH_take (i := 0) (v := ?_) rfl (by kernel_rfl) (by kernel_rfl) (by kernel_rfl) (fun _ _ _ h => h) (Or.inl ⟨by rfl, ?_⟩) (by assumption) ?_
          rotate_left
          (focus (intro w hSw; (try dsimp only at hSw); go_simp; (try with_reducible rfl)))
          (try simp only [Act.put, List.getElem_toArray, List.getElem_cons_zero, List.setIfInBounds_toArray, List.set_cons_zero, List.set_cons_succ])
          refine wpAnyH_take (i := 1) (v := ?_) rfl (by kernel_rfl) (by kernel_rfl) (by kernel_rfl) (fun _ _ _ h => h) (Or.inl ⟨by rfl, ?_⟩) (by assumption) ?_
          rotate_left
          (focus (intro w hSw; (try dsimp only at hSw); go_simp; (try with_reducible rfl)))
          (try simp only [Act.put, List.getElem_toArray, List.getElem_cons_succ, List.getElem_cons_zero, List.setIfInBounds_toArray, List.set_cons_zero, List.set_cons_succ])
          refine wpAnyH_take (i := 2) (v := ?_) rfl (by kernel_rfl) (by kernel_rfl) (by kernel_rfl) (fun _ _ _ h => h) (Or.inl ⟨by rfl, ?_⟩) (by assumption) ?_
          rotate_left
          (focus (intro w hSw; (try dsimp only at hSw); go_simp; (try with_reducible rfl)))
          (try simp only [Act.put, List.getElem_toArray, List.getElem_cons_succ, List.getElem_cons_zero, List.setIfInBounds_toArray, List.set_cons_zero, List.set_cons_succ])
          refine wpAnyH_take (i := 3) (v := ?_) rfl (by kernel_rfl) (by kernel_rfl) (by kernel_rfl) (fun _ _ _ h => h) (Or.inl ⟨by rfl, ?_⟩) (by assumption) ?_
          rotate_left
          (focus (intro w hSw; (try dsimp only at hSw); go_simp; (try with_reducible rfl)))
          (try simp only [Act.put, List.getElem_toArray, List.getElem_cons_succ, List.getElem_cons_zero, List.setIfInBounds_toArray, List.set_cons_zero, List.set_cons_succ])
          refine wpAnyH_take (i := 4) (v := ?_) rfl (by kernel_rfl) (by kernel_rfl) (by kernel_rfl) (fun _ _ _ h => h) (Or.inl ⟨by rfl, ?_⟩) (by assumption) ?_
          rotate_left
          (focus (intro w hSw; (try dsimp only at hSw); go_simp; (try with_reducible rfl)))
          (try simp only [Act.put, List.getElem_toArray, List.getElem_cons_succ, List.getElem_cons_zero, List.setIfInBounds_toArray, List.set_cons_zero, List.set_cons_succ])
          refine wpAnyH_take (i := 5) (v := ?_) rfl (by kernel_rfl) (by kernel_rfl) (by kernel_rfl) (fun _ _ _ h => h) (Or.inl ⟨by rfl, ?_⟩) (by assumption) ?_
          rotate_left
          (focus (intro w hSw; (try dsimp only at hSw); go_simp; (try with_reducible rfl)))
          (try simp only [Act.put, List.getElem_toArray, List.getElem_cons_succ, List.getElem_cons_zero, List.setIfInBounds_toArray, List.set_cons_zero, List.set_cons_succ])
          refine wpAnyH_take (i := 6) (v := ?_) rfl (by kernel_rfl) (by kernel_rfl) (by kernel_rfl) (fun _ _ _ h => h) (Or.inl ⟨by rfl, ?_⟩) (by assumption) ?_
          rotate_left
          (focus (intro w hSw; (try dsimp only at hSw); go_simp; (try with_reducible rfl)))
          (try simp only [Act.put, List.getElem_toArray, List.getElem_cons_succ, List.getElem_cons_zero, List.setIfInBounds_toArray, List.set_cons_zero, List.set_cons_succ])
          refine wpAnyH_take (i := 7) (v := ?_) rfl (by kernel_rfl) (by kernel_rfl) (by kernel_rfl) (fun _ _ _ h => h) (Or.inl ⟨by rfl, ?_⟩) (by assumption) ?_
          rotate_left
          (focus (intro w hSw; (try dsimp only at hSw); go_simp; (try with_reducible rfl)))
          (try simp only [Act.put, List.getElem_toArray, List.getElem_cons_succ, List.getElem_cons_zero, List.setIfInBounds_toArray, List.set_cons_zero, List.set_cons_succ])
          refine wpAnyH_take (i := 8) (v := ?_) rfl (by kernel_rfl) (by kernel_rfl) (by kernel_rfl) (fun _ _ _ h => h) (Or.inl ⟨by rfl, ?_⟩) (by assumption) ?_
          rotate_left
          (focus (intro w hSw; (try dsimp only at hSw); go_simp; (try with_reducible rfl)))
          (try simp only [Act.put, List.getElem_toArray, List.getElem_cons_succ, List.getElem_cons_zero, List.setIfInBounds_toArray, List.set_cons_zero, List.set_cons_succ])
          refine wpAnyH_ready (rs := [9, 10]) (by kernel_rfl) (by simp) ?_
          refine AllReadyH.cons rfl (fun Kp hK => ?_) (AllReadyH.cons rfl (fun Kp hK => ?_) AllReadyH.nil)
          · skip
            go_simp
            go_at_call 80
            (with_reducible refine (stimes_any (w.heap.size + 1 + 1 + 1) false (t.get 12) (v.get 0) _ (by have := K0.out.size; have := o.hP; omega) K0.out.cell K0.out.free).mono ?_)
            rintro e w5 ho
            rw [e0] at ho
            obtain ⟨rfl, hs⟩ : e = .returned (.agg #[.int .i64 (Ac 3 1).re, .int .i64 (Ac 3 1).im, .int .i64 (Ac 3 1).den]) ∧ Sm (w.heap.size + 1 + 1 + 1) false _ _ := ho.fn
            have hzw5 := hs.size
            (try simp at hzw5)
            have K5 := Lib.hid (K0.out.sm o hs)
            clear ho hs
            refine hK.out _ _ (show _ from ⟨⟨(K5.out.one 12 (by omega)).1, (K5.out.one 12 (by omega)).2.1, (K5.out.one 12 (by omega)).2.2⟩, ⟨(K5.out.two 0 (by omega)).1, (K5.out.two 0 (by omega)).2.1, (K5.out.two 0 (by omega)).2.2⟩⟩) (fun hHeld => ?_)
            clear hK Kp
            (try simp only [Act.put, List.getElem_toArray, List.getElem_cons_succ, List.getElem_cons_zero, List.setIfInBounds_toArray, List.set_cons_zero, List.set_cons_succ])
            refine wpAnyH_ready (rs := [10]) (by kernel_rfl) (by simp) ?_
            refine AllReadyH.cons rfl (fun Kp hK => ?_) AllReadyH.nil
            go_simp
            refine hK.out _ _ (show _ from ⟨⟨((K5.out.alloc o _).one 12 (by omega)).1, ((K5.out.alloc o _).one 12 (by omega)).2.1, ((K5.out.alloc o _).one 12 (by omega)).2.2⟩, ⟨((K5.out.alloc o _).two 0 (by omega)).1, ((K5.out.alloc o _).two 0 (by omega)).2.1, ((K5.out.alloc o _).two 0 (by omega)).2.2⟩⟩) (fun hHeld => ?_)
            clear hK Kp
            (try simp only [Act.put, List.getElem_toArray, List.getElem_cons_succ, List.getElem_cons_zero, List.setIfInBounds_toArray, List.set_cons_zero, List.set_cons_succ])
            refine wpAnyH_ready (rs := [11]) (by kernel_rfl) (by simp) ?_
            refine AllReadyH.cons rfl (fun Kp hK => ?_) AllReadyH.nil
            go_simp
            refine hK.out _ _ (show _ from ⟨⟨((K5.out.alloc o _).one 12 (by omega)).1, ((K5.out.alloc o _).one 12 (by omega)).2.1, ((K5.out.alloc o _).one 12 (by omega)).2.2⟩, ⟨((K5.out.alloc o _).two 0 (by omega)).1, ((K5.out.alloc o _).two 0 (by omega)).2.1, ((K5.out.alloc o _).two 0 (by omega)).2.2⟩⟩) (fun hHeld => ?_)
            clear hK Kp
            (try simp only [Act.put, List.getElem_toArray, List.getElem_cons_succ, List.getElem_cons_zero, List.setIfInBounds_toArray, List.set_cons_zero, List.set_cons_succ])
            refine wpAnyH_done (by kernel_rfl) ?_ _
            clear hHeld
            go_wp2_with fail
            go_meet
            exact ⟨w5.heap.size, rfl, K5.out.alloc o _, K5.out.size, by simp, Room.new' rfl rfl, boxN rfl⟩
          · skip
            have KA := Lib.hid (hT.alloc o (.cells #[.int .i64 0, .int .i64 0, .int .i64 0] 23)).drew
            go_simp
            refine hK.out _ _ (show _ from ⟨⟨(KA.out.one 12 (by omega)).1, (KA.out.one 12 (by omega)).2.1, (KA.out.one 12 (by omega)).2.2⟩, ⟨(KA.out.two 0 (by omega)).1, (KA.out.two 0 (by omega)).2.1, (KA.out.two 0 (by omega)).2.2⟩⟩) (fun hHeld => ?_)
            clear hK Kp
            (try simp only [Act.put, List.getElem_toArray, List.getElem_cons_succ, List.getElem_cons_zero, List.setIfInBounds_toArray, List.set_cons_zero, List.set_cons_succ])
            refine wpAnyH_ready (rs := [9]) (by kernel_rfl) (by simp) ?_
            refine AllReadyH.cons rfl (fun Kp hK => ?_) AllReadyH.nil
            go_simp
            go_at_call 80
            (with_reducible refine (stimes_any (w.heap.size + 1 + 1 + 1) false (t.get 12) (v.get 0) _ (by have := KA.out.size; have := o.hP; omega) KA.out.cell KA.out.free).mono ?_)
            rintro e w5 ho
            rw [e0] at ho
            obtain ⟨rfl, hs⟩ : e = .returned (.agg #[.int .i64 (Ac 3 1).re, .int .i64 (Ac 3 1).im, .int .i64 (Ac 3 1).den]) ∧ Sm (w.heap.size + 1 + 1 + 1) false _ _ := ho.fn
            have hzw5 := hs.size
            (try simp at hzw5)
            have RD := Lib.hid ((show Room (World.drew (wr.alloc (.cells #[.int .i64 0, .int .i64 0, .int .i64 0] 23))) wr.heap.size 1 from Room.new' rfl rfl).sm hs (by show wr.heap.size < _; simp) (by have := hT.size; have := o.hP; omega))
            have K5 := Lib.hid (KA.out.sm o hs)
            clear ho hs
            refine hK.out _ _ (show _ from ⟨⟨(K5.out.one 12 (by omega)).1, (K5.out.one 12 (by omega)).2.1, (K5.out.one 12 (by omega)).2.2⟩, ⟨(K5.out.two 0 (by omega)).1, (K5.out.two 0 (by omega)).2.1, (K5.out.two 0 (by omega)).2.2⟩⟩) (fun hHeld => ?_)
            clear hK Kp
            (try simp only [Act.put, List.getElem_toArray, List.getElem_cons_succ, List.getElem_cons_zero, List.setIfInBounds_toArray, List.set_cons_zero, List.set_cons_succ])
            obtain ⟨y0, q0⟩ := Option.isSome_iff_exists.1 (RD.out 0 (by omega)).1
            have fq0 := (RD.out 0 (by omega)).2
            obtain ⟨y1, q1⟩ := Option.isSome_iff_exists.1 (RD.out 1 (by omega)).1
            have fq1 := (RD.out 1 (by omega)).2
            obtain ⟨y2, q2⟩ := Option.isSome_iff_exists.1 (RD.out 2 (by omega)).1
            have fq2 := (RD.out 2 (by omega)).2
            refine wpAnyH_ready (rs := [11]) (by kernel_rfl) (by simp) ?_
            refine AllReadyH.cons rfl (fun Kp hK => ?_) AllReadyH.nil
            go_simp
            refine hK.out _ _ (show _ from ⟨⟨((((K5.out.far o (D := wr.heap.size) hT.size 0 _).far o hT.size 1 _).far o hT.size 2 _).one 12 (by omega)).1, ((((K5.out.far o (D := wr.heap.size) hT.size 0 _).far o hT.size 1 _).far o hT.size 2 _).one 12 (by omega)).2.1, ((((K5.out.far o (D := wr.heap.size) hT.size 0 _).far o hT.size 1 _).far o hT.size 2 _).one 12 (by omega)).2.2⟩, ⟨((((K5.out.far o (D := wr.heap.size) hT.size 0 _).far o hT.size 1 _).far o hT.size 2 _).two 0 (by omega)).1, ((((K5.out.far o (D := wr.heap.size) hT.size 0 _).far o hT.size 1 _).far o hT.size 2 _).two 0 (by omega)).2.1, ((((K5.out.far o (D := wr.heap.size) hT.size 0 _).far o hT.size 1 _).far o hT.size 2 _).two 0 (by omega)).2.2⟩⟩) (fun hHeld => ?_)
            clear hK Kp
            (try simp only [Act.put, List.getElem_toArray, List.getElem_cons_succ, List.getElem_cons_zero, List.setIfInBounds_toArray, List.set_cons_zero, List.set_cons_succ])
            refine wpAnyH_done (by kernel_rfl) ?_ _
            clear hHeld
            go_wp2_with fail
            go_meet
            exact ⟨wr.heap.size, rfl, ((K5.out.far o (D := wr.heap.size) hT.size 0 _).far o hT.size 1 _).far o hT.size 2 _, hT.size, by simp; omega, RD.out.put wr.heap.size 0 _, box1 RD.out⟩
        case rest =>
        obtain ⟨X, rfl, hX⟩ := hcut
        clear hT e0
        obtain ⟨U, hU⟩ : ∃ U, U = wc := ⟨_, rfl⟩
        rw [← hU] at hX
        rw [← hU]
        clear hU
        have hX1 := hX.lo
        have hX2 := hX.hi
        go_wp2
        go_loopw [10] (fun i wy => ∃ k : Nat, i = .int .i64 k ∧ 1 ≤ k ∧ k ≤ 4 ∧ TX w (w.heap.size) (w.heap.size + 1) (w.heap.size + 1 + 1) (w.heap.size + 1 + 1 + 1) w3.heap.size t.get v.get (fun j => Ac j 4) 3 X (Ac 3 k) wy) (fun i _ => (4 - intOf i).toNat)
        case atStart => exact ⟨1, rfl, by omega, by omega, hX⟩
        case round =>
          clear hX hX2
          obtain ⟨k, rfl, hk1, hk4, hX⟩ := hrel
          have hX2 := hX.hi
          by_cases h5 : k < 4
          · have hk : k = 1 ∨ k = 2 ∨ k = 3 := by omega
            clear hk1 hk4 h5
            rcases hk with rfl | rfl | rfl
            · skip
              have e1 : fTimes (t.get 13) (v.get 1) = (Pd 3 1, true) := hp 3 1 (by omega) (by omega) (by omega)
              have e2 : fAdd (Ac 3 1) (Pd 3 1) = (Ac 3 2, true) := ha 3 1 (by omega) (by omega) (by omega)
              have W4 : IntKind.i64.wrap 12 = 12 := by decide
              have W5 : IntKind.i64.wrap 13 = 13 := by decide
              go_upto_region 10 with fail
              have K0 := Lib.hid hX.drew
              obtain ⟨x0, x1, x2⟩ := (show BoxAt (World.drew _) X (fun _ => Ac 3 1) 1 from K0.out.box).f3
              refine wp_region_held_drew (S := (fun w' => (w'.cell? ⟨w.heap.size, 39, none⟩ = some (.int .i64 (t.get 13).re) ∧ w'.cell? ⟨w.heap.size, 40, none⟩ = some (.int .i64 (t.get 13).im) ∧ w'.cell? ⟨w.heap.size, 41, none⟩ = some (.int .i64 (t.get 13).den)) ∧ (w'.cell? ⟨w.heap.size + 1, 3, none⟩ = some (.int .i64 (v.get 1).re) ∧ w'.cell? ⟨w.heap.size + 1, 4, none⟩ = some (.int .i64 (v.get 1).im) ∧ w'.cell? ⟨w.heap.size + 1, 5, none⟩ = some (.int .i64 (v.get 1).den)))) (by kernel_rfl) (show _ from ⟨⟨(K0.out.tf.one 13 (by omega)).1, (K0.out.tf.one 13 (by omega)).2.1, (K0.out.tf.one 13 (by omega)).2.2⟩, ⟨(K0.out.tf.two 1 (by omega)).1, (K0.out.tf.two 1 (by omega)).2.1, (K0.out.tf.two 1 (by omega)).2.2⟩⟩) (fun hHeld => ?_)
              refine wpAnyH_take (i := 0) (v := ?_) rfl (by kernel_rfl) (by kernel_rfl) (by kernel_rfl) (fun _ _ _ h => h) (Or.inl ⟨by rfl, ?_⟩) (by assumption) ?_
              rotate_left
              (focus (intro w hSw; (try dsimp only at hSw); go_simp; (try with_reducible rfl)))
              (try simp only [Act.put, List.getElem_toArray, List.getElem_cons_zero, List.setIfInBounds_toArray, List.set_cons_zero, List.set_cons_succ])
              refine wpAnyH_take (i := 2) (v := ?_) rfl (by kernel_rfl) (by kernel_rfl) (by kernel_rfl) (fun _ _ _ h => h) (Or.inl ⟨by rfl, ?_⟩) (by assumption) ?_
              rotate_left
              (focus (intro w hSw; (try dsimp only at hSw); go_simp; (try with_reducible rfl)))
              (try simp only [Act.put, List.getElem_toArray, List.getElem_cons_succ, List.getElem_cons_zero, List.setIfInBounds_toArray, List.set_cons_zero, List.set_cons_succ])
              refine wpAnyH_take (i := 3) (v := ?_) rfl (by kernel_rfl) (by kernel_rfl) (by kernel_rfl) (fun _ _ _ h => h) (Or.inl ⟨by rfl, ?_⟩) (by assumption) ?_
              rotate_left
              (focus (intro w hSw; (try dsimp only at hSw); go_simp; (try with_reducible rfl)))
              (try simp only [Act.put, List.getElem_toArray, List.getElem_cons_succ, List.getElem_cons_zero, List.setIfInBounds_toArray, List.set_cons_zero, List.set_cons_succ])
              refine wpAnyH_take (i := 4) (v := ?_) rfl (by kernel_rfl) (by kernel_rfl) (by kernel_rfl) (fun _ _ _ h => h) (Or.inl ⟨by rfl, ?_⟩) (by assumption) ?_
              rotate_left
              (focus (intro w hSw; (try dsimp only at hSw); go_simp; (try with_reducible rfl)))
              (try simp only [Act.put, List.getElem_toArray, List.getElem_cons_succ, List.getElem_cons_zero, List.setIfInBounds_toArray, List.set_cons_zero, List.set_cons_succ])
              refine wpAnyH_take (i := 5) (v := ?_) rfl (by kernel_rfl) (by kernel_rfl) (by kernel_rfl) (fun _ _ _ h => h) (Or.inl ⟨by rfl, ?_⟩) (by assumption) ?_
              rotate_left
              (focus (intro w hSw; (try dsimp only at hSw); go_simp; (try with_reducible rfl)))
              (try simp only [Act.put, List.getElem_toArray, List.getElem_cons_succ, List.getElem_cons_zero, List.setIfInBounds_toArray, List.set_cons_zero, List.set_cons_succ])
              refine wpAnyH_take (i := 6) (v := ?_) rfl (by kernel_rfl) (by kernel_rfl) (by kernel_rfl) (fun _ _ _ h => h) (Or.inl ⟨by rfl, ?_⟩) (by assumption) ?_
              rotate_left
              (focus (intro w hSw; (try dsimp only at hSw); go_simp; (try with_reducible rfl)))
              (try simp only [Act.put, List.getElem_toArray, List.getElem_cons_succ, List.getElem_cons_zero, List.setIfInBounds_toArray, List.set_cons_zero, List.set_cons_succ])
              refine wpAnyH_take (i := 7) (v := ?_) rfl (by kernel_rfl) (by kernel_rfl) (by kernel_rfl) (fun _ _ _ h => h) (Or.inl ⟨by rfl, ?_⟩) (by assumption) ?_
              rotate_left
              (focus (intro w hSw; (try dsimp only at hSw); go_simp; (try with_reducible rfl)))
              (try simp only [Act.put, List.getElem_toArray, List.getElem_cons_succ, List.getElem_cons_zero, List.setIfInBounds_toArray, List.set_cons_zero, List.set_cons_succ])
              refine wpAnyH_take (i := 8) (v := ?_) rfl (by kernel_rfl) (by kernel_rfl) (by kernel_rfl) (fun _ _ _ h => h) (Or.inl ⟨by rfl, ?_⟩) (by assumption) ?_
              rotate_left
              (focus (intro w hSw; (try dsimp only at hSw); go_simp; (try with_reducible rfl)))
              (try simp only [Act.put, List.getElem_toArray, List.getElem_cons_succ, List.getElem_cons_zero, List.setIfInBounds_toArray, List.set_cons_zero, List.set_cons_succ])
              refine wpAnyH_take (i := 9) (v := ?_) rfl (by kernel_rfl) (by kernel_rfl) (by kernel_rfl) (fun _ _ _ h => h) (Or.inl ⟨by rfl, ?_⟩) (by assumption) ?_
              rotate_left
              (focus (intro w hSw; (try dsimp only at hSw); go_simp; (try with_reducible rfl)))
              (try simp only [Act.put, List.getElem_toArray, List.getElem_cons_succ, List.getElem_cons_zero, List.setIfInBounds_toArray, List.set_cons_zero, List.set_cons_succ])
              refine wpAnyH_take (i := 10) (v := ?_) rfl (by kernel_rfl) (by kernel_rfl) (by kernel_rfl) (fun _ _ _ h => h) (Or.inl ⟨by rfl, ?_⟩) (by assumption) ?_
              rotate_left
              (focus (intro w hSw; (try dsimp only at hSw); go_simp; (try with_reducible rfl)))
              (try simp only [Act.put, List.getElem_toArray, List.getElem_cons_succ, List.getElem_cons_zero, List.setIfInBounds_toArray, List.set_cons_zero, List.set_cons_succ])
              refine wpAnyH_take (i := 11) (v := ?_) rfl (by kernel_rfl) (by kernel_rfl) (by kernel_rfl) (fun _ _ _ h => h) (Or.inl ⟨by rfl, ?_⟩) (by assumption) ?_
              rotate_left
              (focus (intro w hSw; (try dsimp only at hSw); go_simp; (try with_reducible rfl)))
              (try simp only [Act.put, List.getElem_toArray, List.getElem_cons_succ, List.getElem_cons_zero, List.setIfInBounds_toArray, List.set_cons_zero, List.set_cons_succ])
              refine wpAnyH_take (i := 12) (v := ?_) rfl (by kernel_rfl) (by kernel_rfl) (by kernel_rfl) (fun _ _ _ h => h) (Or.inl ⟨by rfl, ?_⟩) (by assumption) ?_
              rotate_left
              (focus (intro w hSw; (try dsimp only at hSw); go_simp; (try with_reducible rfl)))
              (try simp only [Act.put, List.getElem_toArray, List.getElem_cons_succ, List.getElem_cons_zero, List.setIfInBounds_toArray, List.set_cons_zero, List.set_cons_succ])
              refine wpAnyH_take (i := 13) (v := ?_) rfl (by kernel_rfl) (by kernel_rfl) (by kernel_rfl) (fun _ _ _ h => h) (Or.inl ⟨by rfl, ?_⟩) (by assumption) ?_
              rotate_left
              (focus (intro w hSw; (try dsimp only at hSw); go_simp; (try with_reducible rfl)))
              (try simp only [Act.put, List.getElem_toArray, List.getElem_cons_succ, List.getElem_cons_zero, List.setIfInBounds_toArray, List.set_cons_zero, List.set_cons_succ])
              refine wpAnyH_ready (rs := [1, 14]) (by kernel_rfl) (by simp) ?_
              refine AllReadyH.cons rfl (fun Kp hK => ?_) (AllReadyH.cons rfl (fun Kp hK => ?_) AllReadyH.nil)
              · skip
                go_simp
                refine hK.out _ _ (show _ from ⟨⟨(K0.out.tf.one 13 (by omega)).1, (K0.out.tf.one 13 (by omega)).2.1, (K0.out.tf.one 13 (by omega)).2.2⟩, ⟨(K0.out.tf.two 1 (by omega)).1, (K0.out.tf.two 1 (by omega)).2.1, (K0.out.tf.two 1 (by omega)).2.2⟩⟩) (fun hHeld => ?_)
                clear hK Kp
                (try simp only [Act.put, List.getElem_toArray, List.getElem_cons_succ, List.getElem_cons_zero, List.setIfInBounds_toArray, List.set_cons_zero, List.set_cons_succ])
                refine wpAnyH_ready (rs := [14]) (by kernel_rfl) (by simp) ?_
                refine AllReadyH.cons rfl (fun Kp hK => ?_) AllReadyH.nil
                go_simp
                go_at_call 80
                (with_reducible refine (stimes_any (w.heap.size + 1 + 1 + 1) false (t.get 13) (v.get 1) _ (by have := K0.out.tf.size; have := o.hP; omega) K0.out.tf.cell K0.out.tf.free).mono ?_)
                rintro e w6 ho
                rw [e1] at ho
                obtain ⟨rfl, hs⟩ : e = .returned (.agg #[.int .i64 (Pd 3 1).re, .int .i64 (Pd 3 1).im, .int .i64 (Pd 3 1).den]) ∧ Sm (w.heap.size + 1 + 1 + 1) false _ _ := ho.fn
                have hzw6 := hs.size
                (try simp at hzw6)
                have K6 := Lib.hid (K0.out.sm o hs)
                clear ho hs
                refine hK.out _ _ (show _ from ⟨⟨(K6.out.tf.one 13 (by omega)).1, (K6.out.tf.one 13 (by omega)).2.1, (K6.out.tf.one 13 (by omega)).2.2⟩, ⟨(K6.out.tf.two 1 (by omega)).1, (K6.out.tf.two 1 (by omega)).2.1, (K6.out.tf.two 1 (by omega)).2.2⟩⟩) (fun hHeld => ?_)
                clear hK Kp
                (try simp only [Act.put, List.getElem_toArray, List.getElem_cons_succ, List.getElem_cons_zero, List.setIfInBounds_toArray, List.set_cons_zero, List.set_cons_succ])
                refine wpAnyH_ready (rs := [15]) (by kernel_rfl) (by simp) ?_
                refine AllReadyH.cons rfl (fun Kp hK => ?_) AllReadyH.nil
                go_simp
                go_at_call 77
                (with_reducible refine (sadd_any (w.heap.size + 1 + 1 + 1) false (Ac 3 1) (Pd 3 1) _ (by have := K6.out.tf.size; have := o.hP; omega) K6.out.tf.cell K6.out.tf.free).mono ?_)
                rintro e w7 ho
                rw [e2] at ho
                obtain ⟨rfl, hs⟩ : e = .returned (.agg #[.int .i64 (Ac 3 2).re, .int .i64 (Ac 3 2).im, .int .i64 (Ac 3 2).den]) ∧ Sm (w.heap.size + 1 + 1 + 1) false _ _ := ho.fn
                have hzw7 := hs.size
                (try simp at hzw7)
                have K7 := Lib.hid (K6.out.sm o hs)
                clear ho hs
                refine hK.out _ _ (show _ from ⟨⟨(K7.out.tf.one 13 (by omega)).1, (K7.out.tf.one 13 (by omega)).2.1, (K7.out.tf.one 13 (by omega)).2.2⟩, ⟨(K7.out.tf.two 1 (by omega)).1, (K7.out.tf.two 1 (by omega)).2.1, (K7.out.tf.two 1 (by omega)).2.2⟩⟩) (fun hHeld => ?_)
                clear hK Kp
                (try simp only [Act.put, List.getElem_toArray, List.getElem_cons_succ, List.getElem_cons_zero, List.setIfInBounds_toArray, List.set_cons_zero, List.set_cons_succ])
                obtain ⟨y0, q0⟩ := Option.isSome_iff_exists.1 (K7.out.room 0 (by omega)).1
                have fq0 := (K7.out.room 0 (by omega)).2
                obtain ⟨y1, q1⟩ := Option.isSome_iff_exists.1 (K7.out.room 1 (by omega)).1
                have fq1 := (K7.out.room 1 (by omega)).2
                obtain ⟨y2, q2⟩ := Option.isSome_iff_exists.1 (K7.out.room 2 (by omega)).1
                have fq2 := (K7.out.room 2 (by omega)).2
                refine wpAnyH_ready (rs := [16]) (by kernel_rfl) (by simp) ?_
                refine AllReadyH.cons rfl (fun Kp hK => ?_) AllReadyH.nil
                go_simp
                refine hK.out _ _ (show _ from ⟨⟨((K7.out.put o (Ac 3 2)).tf.one 13 (by omega)).1, ((K7.out.put o (Ac 3 2)).tf.one 13 (by omega)).2.1, ((K7.out.put o (Ac 3 2)).tf.one 13 (by omega)).2.2⟩, ⟨((K7.out.put o (Ac 3 2)).tf.two 1 (by omega)).1, ((K7.out.put o (Ac 3 2)).tf.two 1 (by omega)).2.1, ((K7.out.put o (Ac 3 2)).tf.two 1 (by omega)).2.2⟩⟩) (fun hHeld => ?_)
                clear hK Kp
                (try simp only [Act.put, List.getElem_toArray, List.getElem_cons_succ, List.getElem_cons_zero, List.setIfInBounds_toArray, List.set_cons_zero, List.set_cons_succ])
                refine wpAnyH_done (by kernel_rfl) ?_ _
                clear hHeld
                go_wp2
                go_roundw
                case rel =>
                  refine ⟨_, _, _, _, _, _, _, _, _, _, _, _, _, _, _, _, _, _, _, _, _, ⟨2, ?_, by omega, by omega, K7.out.put o _⟩, rfl⟩
                  first | rfl | go_num
                case measure => simp [intOf]
              · skip
                go_simp
                go_at_call 80
                (with_reducible refine (stimes_any (w.heap.size + 1 + 1 + 1) false (t.get 13) (v.get 1) _ (by have := K0.out.tf.size; have := o.hP; omega) K0.out.tf.cell K0.out.tf.free).mono ?_)
                rintro e w6 ho
                rw [e1] at ho
                obtain ⟨rfl, hs⟩ : e = .returned (.agg #[.int .i64 (Pd 3 1).re, .int .i64 (Pd 3 1).im, .int .i64 (Pd 3 1).den]) ∧ Sm (w.heap.size + 1 + 1 + 1) false _ _ := ho.fn
                have hzw6 := hs.size
                (try simp at hzw6)
                have K6 := Lib.hid (K0.out.sm o hs)
                clear ho hs
                obtain ⟨u0, u1, u2⟩ := K6.out.box.f3
                refine hK.out _ _ (show _ from ⟨⟨(K6.out.tf.one 13 (by omega)).1, (K6.out.tf.one 13 (by omega)).2.1, (K6.out.tf.one 13 (by omega)).2.2⟩, ⟨(K6.out.tf.two 1 (by omega)).1, (K6.out.tf.two 1 (by omega)).2.1, (K6.out.tf.two 1 (by omega)).2.2⟩⟩) (fun hHeld => ?_)
                clear hK Kp
                (try simp only [Act.put, List.getElem_toArray, List.getElem_cons_succ, List.getElem_cons_zero, List.setIfInBounds_toArray, List.set_cons_zero, List.set_cons_succ])
                refine wpAnyH_ready (rs := [1]) (by kernel_rfl) (by simp) ?_
                refine AllReadyH.cons rfl (fun Kp hK => ?_) AllReadyH.nil
                go_simp
                refine hK.out _ _ (show _ from ⟨⟨(K6.out.tf.one 13 (by omega)).1, (K6.out.tf.one 13 (by omega)).2.1, (K6.out.tf.one 13 (by omega)).2.2⟩, ⟨(K6.out.tf.two 1 (by omega)).1, (K6.out.tf.two 1 (by omega)).2.1, (K6.out.tf.two 1 (by omega)).2.2⟩⟩) (fun hHeld => ?_)
                clear hK Kp
                (try simp only [Act.put, List.getElem_toArray, List.getElem_cons_succ, List.getElem_cons_zero, List.setIfInBounds_toArray, List.set_cons_zero, List.set_cons_succ])
                refine wpAnyH_ready (rs := [15]) (by kernel_rfl) (by simp) ?_
                refine AllReadyH.cons rfl (fun Kp hK => ?_) AllReadyH.nil
                go_simp
                go_at_call 77
                (with_reducible refine (sadd_any (w.heap.size + 1 + 1 + 1) false (Ac 3 1) (Pd 3 1) _ (by have := K6.out.tf.size; have := o.hP; omega) K6.out.tf.cell K6.out.tf.free).mono ?_)
                rintro e w7 ho
                rw [e2] at ho
                obtain ⟨rfl, hs⟩ : e = .returned (.agg #[.int .i64 (Ac 3 2).re, .int .i64 (Ac 3 2).im, .int .i64 (Ac 3 2).den]) ∧ Sm (w.heap.size + 1 + 1 + 1) false _ _ := ho.fn
                have hzw7 := hs.size
                (try simp at hzw7)
                have K7 := Lib.hid (K6.out.sm o hs)
                clear ho hs
                refine hK.out _ _ (show _ from ⟨⟨(K7.out.tf.one 13 (by omega)).1, (K7.out.tf.one 13 (by omega)).2.1, (K7.out.tf.one 13 (by omega)).2.2⟩, ⟨(K7.out.tf.two 1 (by omega)).1, (K7.out.tf.two 1 (by omega)).2.1, (K7.out.tf.two 1 (by omega)).2.2⟩⟩) (fun hHeld => ?_)
                clear hK Kp
                (try simp only [Act.put, List.getElem_toArray, List.getElem_cons_succ, List.getElem_cons_zero, List.setIfInBounds_toArray, List.set_cons_zero, List.set_cons_succ])
                obtain ⟨y0, q0⟩ := Option.isSome_iff_exists.1 (K7.out.room 0 (by omega)).1
                have fq0 := (K7.out.room 0 (by omega)).2
                obtain ⟨y1, q1⟩ := Option.isSome_iff_exists.1 (K7.out.room 1 (by omega)).1
                have fq1 := (K7.out.room 1 (by omega)).2
                obtain ⟨y2, q2⟩ := Option.isSome_iff_exists.1 (K7.out.room 2 (by omega)).1
                have fq2 := (K7.out.room 2 (by omega)).2
                refine wpAnyH_ready (rs := [16]) (by kernel_rfl) (by simp) ?_
                refine AllReadyH.cons rfl (fun Kp hK => ?_) AllReadyH.nil
                go_simp
                refine hK.out _ _ (show _ from ⟨⟨((K7.out.put o (Ac 3 2)).tf.one 13 (by omega)).1, ((K7.out.put o (Ac 3 2)).tf.one 13 (by omega)).2.1, ((K7.out.put o (Ac 3 2)).tf.one 13 (by omega)).2.2⟩, ⟨((K7.out.put o (Ac 3 2)).tf.two 1 (by omega)).1, ((K7.out.put o (Ac 3 2)).tf.two 1 (by omega)).2.1, ((K7.out.put o (Ac 3 2)).tf.two 1 (by omega)).2.2⟩⟩) (fun hHeld => ?_)
                clear hK Kp
                (try simp only [Act.put, List.getElem_toArray, List.getElem_cons_succ, List.getElem_cons_zero, List.setIfInBounds_toArray, List.set_cons_zero, List.set_cons_succ])
                refine wpAnyH_done (by kernel_rfl) ?_ _
                clear hHeld
                go_wp2
                go_roundw
                case rel =>
                  refine ⟨_, _, _, _, _, _, _, _, _, _, _, _, _, _, _, _, _, _, _, _, _, ⟨2, ?_, by omega, by omega, K7.out.put o _⟩, rfl⟩
                  first | rfl | go_num
                case measure => simp [intOf]
            · skip
              have e1 : fTimes (t.get 14) (v.get 2) = (Pd 3 2, true) := hp 3 2 (by omega) (by omega) (by omega)
              have e2 : fAdd (Ac 3 2) (Pd 3 2) = (Ac 3 3, true) := ha 3 2 (by omega) (by omega) (by omega)
              have W4 : IntKind.i64.wrap 12 = 12 := by decide
              have W5 : IntKind.i64.wrap 14 = 14 := by decide
              go_upto_region 10 with fail
              have K0 := Lib.hid hX.drew
              obtain ⟨x0, x1, x2⟩ := (show BoxAt (World.drew _) X (fun _ => Ac 3 2) 1 from K0.out.box).f3
              refine wp_region_held_drew (S := (fun w' => (w'.cell? ⟨w.heap.size, 42, none⟩ = some (.int .i64 (t.get 14).re) ∧ w'.cell? ⟨w.heap.size, 43, none⟩ = some (.int .i64 (t.get 14).im) ∧ w'.cell? ⟨w.heap.size, 44, none⟩ = some (.int .i64 (t.get 14).den)) ∧ (w'.cell? ⟨w.heap.size + 1, 6, none⟩ = some (.int .i64 (v.get 2).re) ∧ w'.cell? ⟨w.heap.size + 1, 7, none⟩ = some (.int .i64 (v.get 2).im) ∧ w'.cell? ⟨w.heap.size + 1, 8, none⟩ = some (.int .i64 (v.get 2).den)))) (by kernel_rfl) (show _ from ⟨⟨(K0.out.tf.one 14 (by omega)).1, (K0.out.tf.one 14 (by omega)).2.1, (K0.out.tf.one 14 (by omega)).2.2⟩, ⟨(K0.out.tf.two 2 (by omega)).1, (K0.out.tf.two 2 (by omega)).2.1, (K0.out.tf.two 2 (by omega)).2.2⟩⟩) (fun hHeld => ?_)
              refine wpAnyH_take (i := 0) (v := ?_) rfl (by kernel_rfl) (by kernel_rfl) (by kernel_rfl) (fun _ _ _ h => h) (Or.inl ⟨by rfl, ?_⟩) (by assumption) ?_
              rotate_left
              (focus (intro w hSw; (try dsimp only at hSw); go_simp; (try with_reducible rfl)))
              (try simp only [Act.put, List.getElem_toArray, List.getElem_cons_zero, List.setIfInBounds_toArray, List.set_cons_zero, List.set_cons_succ])
              refine wpAnyH_take (i := 2) (v := ?_) rfl (by kernel_rfl) (by kernel_rfl) (by kernel_rfl) (fun _ _ _ h => h) (Or.inl ⟨by rfl, ?_⟩) (by assumption) ?_
              rotate_left
              (focus (intro w hSw; (try dsimp only at hSw); go_simp; (try with_reducible rfl)))
              (try simp only [Act.put, List.getElem_toArray, List.getElem_cons_succ, List.getElem_cons_zero, List.setIfInBounds_toArray, List.set_cons_zero, List.set_cons_succ])
              refine wpAnyH_take (i := 3) (v := ?_) rfl (by kernel_rfl) (by kernel_rfl) (by kernel_rfl) (fun _ _ _ h => h) (Or.inl ⟨by rfl, ?_⟩) (by assumption) ?_
              rotate_left
              (focus (intro w hSw; (try dsimp only at hSw); go_simp; (try with_reducible rfl)))
              (try simp only [Act.put, List.getElem_toArray, List.getElem_cons_succ, List.getElem_cons_zero, List.setIfInBounds_toArray, List.set_cons_zero, List.set_cons_succ])
              refine wpAnyH_take (i := 4) (v := ?_) rfl (by kernel_rfl) (by kernel_rfl) (by kernel_rfl) (fun _ _ _ h => h) (Or.inl ⟨by rfl, ?_⟩) (by assumption) ?_
              rotate_left
              (focus (intro w hSw; (try dsimp only at hSw); go_simp; (try with_reducible rfl)))
              (try simp only [Act.put, List.getElem_toArray, List.getElem_cons_succ, List.getElem_cons_zero, List.setIfInBounds_toArray, List.set_cons_zero, List.set_cons_succ])
              refine wpAnyH_take (i := 5) (v := ?_) rfl (by kernel_rfl) (by kernel_rfl) (by kernel_rfl) (fun _ _ _ h => h) (Or.inl ⟨by rfl, ?_⟩) (by assumption) ?_
              rotate_left
              (focus (intro w hSw; (try dsimp only at hSw); go_simp; (try with_reducible rfl)))
              (try simp only [Act.put, List.getElem_toArray, List.getElem_cons_succ, List.getElem_cons_zero, List.setIfInBounds_toArray, List.set_cons_zero, List.set_cons_succ])
              refine wpAnyH_take (i := 6) (v := ?_) rfl (by kernel_rfl) (by kernel_rfl) (by kernel_rfl) (fun _ _ _ h => h) (Or.inl ⟨by rfl, ?_⟩) (by assumption) ?_
              rotate_left
              (focus (intro w hSw; (try dsimp only at hSw); go_simp; (try with_reducible rfl)))
              (try simp only [Act.put, List.getElem_toArray, List.getElem_cons_succ, List.getElem_cons_zero, List.setIfInBounds_toArray, List.set_cons_zero, List.set_cons_succ])
              refine wpAnyH_take (i := 7) (v := ?_) rfl (by kernel_rfl) (by kernel_rfl) (by kernel_rfl) (fun _ _ _ h => h) (Or.inl ⟨by rfl, ?_⟩) (by assumption) ?_
              rotate_left
              (focus (intro w hSw; (try dsimp only at hSw); go_simp; (try with_reducible rfl)))
              (try simp only [Act.put, List.getElem_toArray, List.getElem_cons_succ, List.getElem_cons_zero, List.setIfInBounds_toArray, List.set_cons_zero, List.set_cons_succ])
              refine wpAnyH_take (i := 8) (v := ?_) rfl (by kernel_rfl) (by kernel_rfl) (by kernel_rfl) (fun _ _ _ h => h) (Or.inl ⟨by rfl, ?_⟩) (by assumption) ?_
              rotate_left
              (focus (intro w hSw; (try dsimp only at hSw); go_simp; (try with_reducible rfl)))
              (try simp only [Act.put, List.getElem_toArray, List.getElem_cons_succ, List.getElem_cons_zero, List.setIfInBounds_toArray, List.set_cons_zero, List.set_cons_succ])
              refine wpAnyH_take (i := 9) (v := ?_) rfl (by kernel_rfl) (by kernel_rfl) (by kernel_rfl) (fun _ _ _ h => h) (Or.inl ⟨by rfl, ?_⟩) (by assumption) ?_
              rotate_left
              (focus (intro w hSw; (try dsimp only at hSw); go_simp; (try with_reducible rfl)))
              (try simp only [Act.put, List.getElem_toArray, List.getElem_cons_succ, List.getElem_cons_zero, List.setIfInBounds_toArray, List.set_cons_zero, List.set_cons_succ])
              refine wpAnyH_take (i := 10) (v := ?_) rfl (by kernel_rfl) (by kernel_rfl) (by kernel_rfl) (fun _ _ _ h => h) (Or.inl ⟨by rfl, ?_⟩) (by assumption) ?_
              rotate_left
              (focus (intro w hSw; (try dsimp only at hSw); go_simp; (try with_reducible rfl)))
              (try simp only [Act.put, List.getElem_toArray, List.getElem_cons_succ, List.getElem_cons_zero, List.setIfInBounds_toArray, List.set_cons_zero, List.set_cons_succ])
              refine wpAnyH_take (i := 11) (v := ?_) rfl (by kernel_rfl) (by kernel_rfl) (by kernel_rfl) (fun _ _ _ h => h) (Or.inl ⟨by rfl, ?_⟩) (by assumption) ?_
              rotate_left
              (focus (intro w hSw; (try dsimp only at hSw); go_simp; (try with_reducible rfl)))
              (try simp only [Act.put, List.getElem_toArray, List.getElem_cons_succ, List.getElem_cons_zero, List.setIfInBounds_toArray, List.set_cons_zero, List.set_cons_succ])
              refine wpAnyH_take (i := 12) (v := ?_) rfl (by kernel_rfl) (by kernel_rfl) (by kernel_rfl) (fun _ _ _ h => h) (Or.inl ⟨by rfl, ?_⟩) (by assumption) ?_
              rotate_left
              (focus (intro w hSw; (try dsimp only at hSw); go_simp; (try with_reducible rfl)))
              (try simp only [Act.put, List.getElem_toArray, List.getElem_cons_succ, List.getElem_cons_zero, List.setIfInBounds_toArray, List.set_cons_zero, List.set_cons_succ])
              refine wpAnyH_take (i := 13) (v := ?_) rfl (by kernel_rfl) (by kernel_rfl) (by kernel_rfl) (fun _ _ _ h => h) (Or.inl ⟨by rfl, ?_⟩) (by assumption) ?_
              rotate_left
              (focus (intro w hSw; (try dsimp only at hSw); go_simp; (try with_reducible rfl)))
              (try simp only [Act.put, List.getElem_toArray, List.getElem_cons_succ, List.getElem_cons_zero, List.setIfInBounds_toArray, List.set_cons_zero, List.set_cons_succ])
              refine wpAnyH_ready (rs := [1, 14]) (by kernel_rfl) (by simp) ?_
              refine AllReadyH.cons rfl (fun Kp hK => ?_) (AllReadyH.cons rfl (fun Kp hK => ?_) AllReadyH.nil)
              · skip
                go_simp
                refine hK.out _ _ (show _ from ⟨⟨(K0.out.tf.one 14 (by omega)).1, (K0.out.tf.one 14 (by omega)).2.1, (K0.out.tf.one 14 (by omega)).2.2⟩, ⟨(K0.out.tf.two 2 (by omega)).1, (K0.out.tf.two 2 (by omega)).2.1, (K0.out.tf.two 2 (by omega)).2.2⟩⟩) (fun hHeld => ?_)
                clear hK Kp
                (try simp only [Act.put, List.getElem_toArray, List.getElem_cons_succ, List.getElem_cons_zero, List.setIfInBounds_toArray, List.set_cons_zero, List.set_cons_succ])
                refine wpAnyH_ready (rs := [14]) (by kernel_rfl) (by simp) ?_
                refine AllReadyH.cons rfl (fun Kp hK => ?_) AllReadyH.nil
                go_simp
                go_at_call 80
                (with_reducible refine (stimes_any (w.heap.size + 1 + 1 + 1) false (t.get 14) (v.get 2) _ (by have := K0.out.tf.size; have := o.hP; omega) K0.out.tf.cell K0.out.tf.free).mono ?_)
                rintro e w6 ho
                rw [e1] at ho
                obtain ⟨rfl, hs⟩ : e = .returned (.agg #[.int .i64 (Pd 3 2).re, .int .i64 (Pd 3 2).im, .int .i64 (Pd 3 2).den]) ∧ Sm (w.heap.size + 1 + 1 + 1) false _ _ := ho.fn
                have hzw6 := hs.size
                (try simp at hzw6)
                have K6 := Lib.hid (K0.out.sm o hs)
                clear ho hs
                refine hK.out _ _ (show _ from ⟨⟨(K6.out.tf.one 14 (by omega)).1, (K6.out.tf.one 14 (by omega)).2.1, (K6.out.tf.one 14 (by omega)).2.2⟩, ⟨(K6.out.tf.two 2 (by omega)).1, (K6.out.tf.two 2 (by omega)).2.1, (K6.out.tf.two 2 (by omega)).2.2⟩⟩) (fun hHeld => ?_)
                clear hK Kp
                (try simp only [Act.put, List.getElem_toArray, List.getElem_cons_succ, List.getElem_cons_zero, List.setIfInBounds_toArray, List.set_cons_zero, List.set_cons_succ])
                refine wpAnyH_ready (rs := [15]) (by kernel_rfl) (by simp) ?_
                refine AllReadyH.cons rfl (fun Kp hK => ?_) AllReadyH.nil
                go_simp
                go_at_call 77
                (with_reducible refine (sadd_any (w.heap.size + 1 + 1 + 1) false (Ac 3 2) (Pd 3 2) _ (by have := K6.out.tf.size; have := o.hP; omega) K6.out.tf.cell K6.out.tf.free).mono ?_)
                rintro e w7 ho
                rw [e2] at ho
                obtain ⟨rfl, hs⟩ : e = .returned (.agg #[.int .i64 (Ac 3 3).re, .int .i64 (Ac 3 3).im, .int .i64 (Ac 3 3).den]) ∧ Sm (w.heap.size + 1 + 1 + 1) false _ _ := ho.fn
                have hzw7 := hs.size
                (try simp at hzw7)
                have K7 := Lib.hid (K6.out.sm o hs)
                clear ho hs
                refine hK.out _ _ (show _ from ⟨⟨(K7.out.tf.one 14 (by omega)).1, (K7.out.tf.one 14 (by omega)).2.1, (K7.out.tf.one 14 (by omega)).2.2⟩, ⟨(K7.out.tf.two 2 (by omega)).1, (K7.out.tf.two 2 (by omega)).2.1, (K7.out.tf.two 2 (by omega)).2.2⟩⟩) (fun hHeld => ?_)
                clear hK Kp
                (try simp only [Act.put, List.getElem_toArray, List.getElem_cons_succ, List.getElem_cons_zero, List.setIfInBounds_toArray, List.set_cons_zero, List.set_cons_succ])
                obtain ⟨y0, q0⟩ := Option.isSome_iff_exists.1 (K7.out.room 0 (by omega)).1
                have fq0 := (K7.out.room 0 (by omega)).2
                obtain ⟨y1, q1⟩ := Option.isSome_iff_exists.1 (K7.out.room 1 (by omega)).1
                have fq1 := (K7.out.room 1 (by omega)).2
                obtain ⟨y2, q2⟩ := Option.isSome_iff_exists.1 (K7.out.room 2 (by omega)).1
                have fq2 := (K7.out.room 2 (by omega)).2
                refine wpAnyH_ready (rs := [16]) (by kernel_rfl) (by simp) ?_
                refine AllReadyH.cons rfl (fun Kp hK => ?_) AllReadyH.nil
                go_simp
                refine hK.out _ _ (show _ from ⟨⟨((K7.out.put o (Ac 3 3)).tf.one 14 (by omega)).1, ((K7.out.put o (Ac 3 3)).tf.one 14 (by omega)).2.1, ((K7.out.put o (Ac 3 3)).tf.one 14 (by omega)).2.2⟩, ⟨((K7.out.put o (Ac 3 3)).tf.two 2 (by omega)).1, ((K7.out.put o (Ac 3 3)).tf.two 2 (by omega)).2.1, ((K7.out.put o (Ac 3 3)).tf.two 2 (by omega)).2.2⟩⟩) (fun hHeld => ?_)
                clear hK Kp
                (try simp only [Act.put, List.getElem_toArray, List.getElem_cons_succ, List.getElem_cons_zero, List.setIfInBounds_toArray, List.set_cons_zero, List.set_cons_succ])
                refine wpAnyH_done (by kernel_rfl) ?_ _
                clear hHeld
                go_wp2
                go_roundw
                case rel =>
                  refine ⟨_, _, _, _, _, _, _, _, _, _, _, _, _, _, _, _, _, _, _, _, _, ⟨3, ?_, by omega, by omega, K7.out.put o _⟩, rfl⟩
                  first | rfl | go_num
                case measure => simp [intOf]
              · skip
                go_simp
                go_at_call 80
                (with_reducible refine (stimes_any (w.heap.size + 1 + 1 + 1) false (t.get 14) (v.get 2) _ (by have := K0.out.tf.size; have := o.hP; omega) K0.out.tf.cell K0.out.tf.free).mono ?_)
                rintro e w6 ho
                rw [e1] at ho
                obtain ⟨rfl, hs⟩ : e = .returned (.agg #[.int .i64 (Pd 3 2).re, .int .i64 (Pd 3 2).im, .int .i64 (Pd 3 2).den]) ∧ Sm (w.heap.size + 1 + 1 + 1) false _ _ := ho.fn
                have hzw6 := hs.size
                (try simp at hzw6)
                have K6 := Lib.hid (K0.out.sm o hs)
                clear ho hs
                obtain ⟨u0, u1, u2⟩ := K6.out.box.f3
                refine hK.out _ _ (show _ from ⟨⟨(K6.out.tf.one 14 (by omega)).1, (K6.out.tf.one 14 (by omega)).2.1, (K6.out.tf.one 14 (by omega)).2.2⟩, ⟨(K6.out.tf.two 2 (by omega)).1, (K6.out.tf.two 2 (by omega)).2.1, (K6.out.tf.two 2 (by omega)).2.2⟩⟩) (fun hHeld => ?_)
                clear hK Kp
                (try simp only [Act.put, List.getElem_toArray, List.getElem_cons_succ, List.getElem_cons_zero, List.setIfInBounds_toArray, List.set_cons_zero, List.set_cons_succ])
                refine wpAnyH_ready (rs := [1]) (by kernel_rfl) (by simp) ?_
                refine AllReadyH.cons rfl (fun Kp hK => ?_) AllReadyH.nil
                go_simp
                refine hK.out _ _ (show _ from ⟨⟨(K6.out.tf.one 14 (by omega)).1, (K6.out.tf.one 14 (by omega)).2.1, (K6.out.tf.one 14 (by omega)).2.2⟩, ⟨(K6.out.tf.two 2 (by omega)).1, (K6.out.tf.two 2 (by omega)).2.1, (K6.out.tf.two 2 (by omega)).2.2⟩⟩) (fun hHeld => ?_)
                clear hK Kp
                (try simp only [Act.put, List.getElem_toArray, List.getElem_cons_succ, List.getElem_cons_zero, List.setIfInBounds_toArray, List.set_cons_zero, List.set_cons_succ])
                refine wpAnyH_ready (rs := [15]) (by kernel_rfl) (by simp) ?_
                refine AllReadyH.cons rfl (fun Kp hK => ?_) AllReadyH.nil
                go_simp
                go_at_call 77
                (with_reducible refine (sadd_any (w.heap.size + 1 + 1 + 1) false (Ac 3 2) (Pd 3 2) _ (by have := K6.out.tf.size; have := o.hP; omega) K6.out.tf.cell K6.out.tf.free).mono ?_)
                rintro e w7 ho
                rw [e2] at ho
                obtain ⟨rfl, hs⟩ : e = .returned (.agg #[.int .i64 (Ac 3 3).re, .int .i64 (Ac 3 3).im, .int .i64 (Ac 3 3).den]) ∧ Sm (w.heap.size + 1 + 1 + 1) false _ _ := ho.fn
                have hzw7 := hs.size
                (try simp at hzw7)
                have K7 := Lib.hid (K6.out.sm o hs)
                clear ho hs
                refine hK.out _ _ (show _ from ⟨⟨(K7.out.tf.one 14 (by omega)).1, (K7.out.tf.one 14 (by omega)).2.1, (K7.out.tf.one 14 (by omega)).2.2⟩, ⟨(K7.out.tf.two 2 (by omega)).1, (K7.out.tf.two 2 (by omega)).2.1, (K7.out.tf.two 2 (by omega)).2.2⟩⟩) (fun hHeld => ?_)
                clear hK Kp
                (try simp only [Act.put, List.getElem_toArray, List.getElem_cons_succ, List.getElem_cons_zero, List.setIfInBounds_toArray, List.set_cons_zero, List.set_cons_succ])
                obtain ⟨y0, q0⟩ := Option.isSome_iff_exists.1 (K7.out.room 0 (by omega)).1
                have fq0 := (K7.out.room 0 (by omega)).2
                obtain ⟨y1, q1⟩ := Option.isSome_iff_exists.1 (K7.out.room 1 (by omega)).1
                have fq1 := (K7.out.room 1 (by omega)).2
                obtain ⟨y2, q2⟩ := Option.isSome_iff_exists.1 (K7.out.room 2 (by omega)).1
                have fq2 := (K7.out.room 2 (by omega)).2
                refine wpAnyH_ready (rs := [16]) (by kernel_rfl) (by simp) ?_
                refine AllReadyH.cons rfl (fun Kp hK => ?_) AllReadyH.nil
                go_simp
                refine hK.out _ _ (show _ from ⟨⟨((K7.out.put o (Ac 3 3)).tf.one 14 (by omega)).1, ((K7.out.put o (Ac 3 3)).tf.one 14 (by omega)).2.1, ((K7.out.put o (Ac 3 3)).tf.one 14 (by omega)).2.2⟩, ⟨((K7.out.put o (Ac 3 3)).tf.two 2 (by omega)).1, ((K7.out.put o (Ac 3 3)).tf.two 2 (by omega)).2.1, ((K7.out.put o (Ac 3 3)).tf.two 2 (by omega)).2.2⟩⟩) (fun hHeld => ?_)
                clear hK Kp
                (try simp only [Act.put, List.getElem_toArray, List.getElem_cons_succ, List.getElem_cons_zero, List.setIfInBounds_toArray, List.set_cons_zero, List.set_cons_succ])
                refine wpAnyH_done (by kernel_rfl) ?_ _
                clear hHeld
                go_wp2
                go_roundw
                case rel =>
                  refine ⟨_, _, _, _, _, _, _, _, _, _, _, _, _, _, _, _, _, _, _, _, _, ⟨3, ?_, by omega, by omega, K7.out.put o _⟩, rfl⟩
                  first | rfl | go_num
                case measure => simp [intOf]
            · skip
              have e1 : fTimes (t.get 15) (v.get 3) = (Pd 3 3, true) := hp 3 3 (by omega) (by omega) (by omega)
              have e2 : fAdd (Ac 3 3) (Pd 3 3) = (Ac 3 4, true) := ha 3 3 (by omega) (by omega) (by omega)
              have W4 : IntKind.i64.wrap 12 = 12 := by decide
              have W5 : IntKind.i64.wrap 15 = 15 := by decide
              go_upto_region 10 with fail
              have K0 := Lib.hid hX.drew
              obtain ⟨x0, x1, x2⟩ := (show BoxAt (World.drew _) X (fun _ => Ac 3 3) 1 from K0.out.box).f3
              refine wp_region_held_drew (S := (fun w' => (w'.cell? ⟨w.heap.size, 45, none⟩ = some (.int .i64 (t.get 15).re) ∧ w'.cell? ⟨w.heap.size, 46, none⟩ = some (.int .i64 (t.get 15).im) ∧ w'.cell? ⟨w.heap.size, 47, none⟩ = some (.int .i64 (t.get 15).den)) ∧ (w'.cell? ⟨w.heap.size + 1, 9, none⟩ = some (.int .i64 (v.get 3).re) ∧ w'.cell? ⟨w.heap.size + 1, 10, none⟩ = some (.int .i64 (v.get 3).im) ∧ w'.cell? ⟨w.heap.size + 1, 11, none⟩ = some (.int .i64 (v.get 3).den)))) (by kernel_rfl) (show _ from ⟨⟨(K0.out.tf.one 15 (by omega)).1, (K0.out.tf.one 15 (by omega)).2.1, (K0.out.tf.one 15 (by omega)).2.2⟩, ⟨(K0.out.tf.two 3 (by omega)).1, (K0.out.tf.two 3 (by omega)).2.1, (K0.out.tf.two 3 (by omega)).2.2⟩⟩) (fun hHeld => ?_)
              refine wpAnyH_take (i := 0) (v := ?_) rfl (by kernel_rfl) (by kernel_rfl) (by kernel_rfl) (fun _ _ _ h => h) (Or.inl ⟨by rfl, ?_⟩) (by assumption) ?_
              rotate_left
              (focus (intro w hSw; (try dsimp only at hSw); go_simp; (try with_reducible rfl)))
              (try simp only [Act.put, List.getElem_toArray, List.getElem_cons_zero, List.setIfInBounds_toArray, List.set_cons_zero, List.set_cons_succ])
              refine wpAnyH_take (i := 2) (v := ?_) rfl (by kernel_rfl) (by kernel_rfl) (by kernel_rfl) (fun _ _ _ h => h) (Or.inl ⟨by rfl, ?_⟩) (by assumption) ?_
              rotate_left
              (focus (intro w hSw; (try dsimp only at hSw); go_simp; (try with_reducible rfl)))
              (try simp only [Act.put, List.getElem_toArray, List.getElem_cons_succ, List.getElem_cons_zero, List.setIfInBounds_toArray, List.set_cons_zero, List.set_cons_succ])
              refine wpAnyH_take (i := 3) (v := ?_) rfl (by kernel_rfl) (by kernel_rfl) (by kernel_rfl) (fun _ _ _ h => h) (Or.inl ⟨by rfl, ?_⟩) (by assumption) ?_
              rotate_left
              (focus (intro w hSw; (try dsimp only at hSw); go_simp; (try with_reducible rfl)))
              (try simp only [Act.put, List.getElem_toArray, List.getElem_cons_succ, List.getElem_cons_zero, List.setIfInBounds_toArray, List.set_cons_zero, List.set_cons_succ])
              refine wpAnyH_take (i := 4) (v := ?_) rfl (by kernel_rfl) (by kernel_rfl) (by kernel_rfl) (fun _ _ _ h => h) (Or.inl ⟨by rfl, ?_⟩) (by assumption) ?_
              rotate_left
              (focus (intro w hSw; (try dsimp only at hSw); go_simp; (try with_reducible rfl)))
              (try simp only [Act.put, List.getElem_toArray, List.getElem_cons_succ, List.getElem_cons_zero, List.setIfInBounds_toArray, List.set_cons_zero, List.set_cons_succ])
              refine wpAnyH_take (i := 5) (v := ?_) rfl (by kernel_rfl) (by kernel_rfl) (by kernel_rfl) (fun _ _ _ h => h) (Or.inl ⟨by rfl, ?_⟩) (by assumption) ?_
              rotate_left
              (focus (intro w hSw; (try dsimp only at hSw); go_simp; (try with_reducible rfl)))
              (try simp only [Act.put, List.getElem_toArray, List.getElem_cons_succ, List.getElem_cons_zero, List.setIfInBounds_toArray, List.set_cons_zero, List.set_cons_succ])
              refine wpAnyH_take (i := 6) (v := ?_) rfl (by kernel_rfl) (by kernel_rfl) (by kernel_rfl) (fun _ _ _ h => h) (Or.inl ⟨by rfl, ?_⟩) (by assumption) ?_
              rotate_left
              (focus (intro w hSw; (try dsimp only at hSw); go_simp; (try with_reducible rfl)))
              (try simp only [Act.put, List.getElem_toArray, List.getElem_cons_succ, List.getElem_cons_zero, List.setIfInBounds_toArray, List.set_cons_zero, List.set_cons_succ])
              refine wpAnyH_take (i := 7) (v := ?_) rfl (by kernel_rfl) (by kernel_rfl) (by kernel_rfl) (fun _ _ _ h => h) (Or.inl ⟨by rfl, ?_⟩) (by assumption) ?_
              rotate_left
              (focus (intro w hSw; (try dsimp only at hSw); go_simp; (try with_reducible rfl)))
              (try simp only [Act.put, List.getElem_toArray, List.getElem_cons_succ, List.getElem_cons_zero, List.setIfInBounds_toArray, List.set_cons_zero, List.set_cons_succ])
              refine wpAnyH_take (i := 8) (v := ?_) rfl (by kernel_rfl) (by kernel_rfl) (by kernel_rfl) (fun _ _ _ h => h) (Or.inl ⟨by rfl, ?_⟩) (by assumption) ?_
              rotate_left
              (focus (intro w hSw; (try dsimp only at hSw); go_simp; (try with_reducible rfl)))
              (try simp only [Act.put, List.getElem_toArray, List.getElem_cons_succ, List.getElem_cons_zero, List.setIfInBounds_toArray, List.set_cons_zero, List.set_cons_succ])
              refine wpAnyH_take (i := 9) (v := ?_) rfl (by kernel_rfl) (by kernel_rfl) (by kernel_rfl) (fun _ _ _ h => h) (Or.inl ⟨by rfl, ?_⟩) (by assumption) ?_
              rotate_left
              (focus (intro w hSw; (try dsimp only at hSw); go_simp; (try with_reducible rfl)))
              (try simp only [Act.put, List.getElem_toArray, List.getElem_cons_succ, List.getElem_cons_zero, List.setIfInBounds_toArray, List.set_cons_zero, List.set_cons_succ])
              refine wpAnyH_take (i := 10) (v := ?_) rfl (by kernel_rfl) (by kernel_rfl) (by kernel_rfl) (fun _ _ _ h => h) (Or.inl ⟨by rfl, ?_⟩) (by assumption) ?_
              rotate_left
              (focus (intro w hSw; (try dsimp only at hSw); go_simp; (try with_reducible rfl)))
              (try simp only [Act.put, List.getElem_toArray, List.getElem_cons_succ, List.getElem_cons_zero, List.setIfInBounds_toArray, List.set_cons_zero, List.set_cons_succ])
              refine wpAnyH_take (i := 11) (v := ?_) rfl (by kernel_rfl) (by kernel_rfl) (by kernel_rfl) (fun _ _ _ h => h) (Or.inl ⟨by rfl, ?_⟩) (by assumption) ?_
              rotate_left
              (focus (intro w hSw; (try dsimp only at hSw); go_simp; (try with_reducible rfl)))
              (try simp only [Act.put, List.getElem_toArray, List.getElem_cons_succ, List.getElem_cons_zero, List.setIfInBounds_toArray, List.set_cons_zero, List.set_cons_succ])
              refine wpAnyH_take (i := 12) (v := ?_) rfl (by kernel_rfl) (by kernel_rfl) (by kernel_rfl) (fun _ _ _ h => h) (Or.inl ⟨by rfl, ?_⟩) (by assumption) ?_
              rotate_left
              (focus (intro w hSw; (try dsimp only at hSw); go_simp; (try with_reducible rfl)))
              (try simp only [Act.put, List.getElem_toArray, List.getElem_cons_succ, List.getElem_cons_zero, List.setIfInBounds_toArray, List.set_cons_zero, List.set_cons_succ])
              refine wpAnyH_take (i := 13) (v := ?_) rfl (by kernel_rfl) (by kernel_rfl) (by kernel_rfl) (fun _ _ _ h => h) (Or.inl ⟨by rfl, ?_⟩) (by assumption) ?_
              rotate_left
              (focus (intro w hSw; (try dsimp only at hSw); go_simp; (try with_reducible rfl)))
              (try simp only [Act.put, List.getElem_toArray, List.getElem_cons_succ, List.getElem_cons_zero, List.setIfInBounds_toArray, List.set_cons_zero, List.set_cons_succ])
              refine wpAnyH_ready (rs := [1, 14]) (by kernel_rfl) (by simp) ?_
              refine AllReadyH.cons rfl (fun Kp hK => ?_) (AllReadyH.cons rfl (fun Kp hK => ?_) AllReadyH.nil)
              · skip
                go_simp
                refine hK.out _ _ (show _ from ⟨⟨(K0.out.tf.one 15 (by omega)).1, (K0.out.tf.one 15 (by omega)).2.1, (K0.out.tf.one 15 (by omega)).2.2⟩, ⟨(K0.out.tf.two 3 (by omega)).1, (K0.out.tf.two 3 (by omega)).2.1, (K0.out.tf.two 3 (by omega)).2.2⟩⟩) (fun hHeld => ?_)
                clear hK Kp
                (try simp only [Act.put, List.getElem_toArray, List.getElem_cons_succ, List.getElem_cons_zero, List.setIfInBounds_toArray, List.set_cons_zero, List.set_cons_succ])
                refine wpAnyH_ready (rs := [14]) (by kernel_rfl) (by simp) ?_
                refine AllReadyH.cons rfl (fun Kp hK => ?_) AllReadyH.nil
                go_simp
                go_at_call 80
                (with_reducible refine (stimes_any (w.heap.size + 1 + 1 + 1) false (t.get 15) (v.get 3) _ (by have := K0.out.tf.size; have := o.hP; omega) K0.out.tf.cell K0.out.tf.free).mono ?_)
                rintro e w6 ho
                rw [e1] at ho
                obtain ⟨rfl, hs⟩ : e = .returned (.agg #[.int .i64 (Pd 3 3).re, .int .i64 (Pd 3 3).im, .int .i64 (Pd 3 3).den]) ∧ Sm (w.heap.size + 1 + 1 + 1) false _ _ := ho.fn
                have hzw6 := hs.size
                (try simp at hzw6)
                have K6 := Lib.hid (K0.out.sm o hs)
                clear ho hs
                refine hK.out _ _ (show _ from ⟨⟨(K6.out.tf.one 15 (by omega)).1, (K6.out.tf.one 15 (by omega)).2.1, (K6.out.tf.one 15 (by omega)).2.2⟩, ⟨(K6.out.tf.two 3 (by omega)).1, (K6.out.tf.two 3 (by omega)).2.1, (K6.out.tf.two 3 (by omega)).2.2⟩⟩) (fun hHeld => ?_)
                clear hK Kp
                (try simp only [Act.put, List.getElem_toArray, List.getElem_cons_succ, List.getElem_cons_zero, List.setIfInBounds_toArray, List.set_cons_zero, List.set_cons_succ])
                refine wpAnyH_ready (rs := [15]) (by kernel_rfl) (by simp) ?_
                refine AllReadyH.cons rfl (fun Kp hK => ?_) AllReadyH.nil
                go_simp
                go_at_call 77
                (with_reducible refine (sadd_any (w.heap.size + 1 + 1 + 1) false (Ac 3 3) (Pd 3 3) _ (by have := K6.out.tf.size; have := o.hP; omega) K6.out.tf.cell K6.out.tf.free).mono ?_)
                rintro e w7 ho
                rw [e2] at ho
                obtain ⟨rfl, hs⟩ : e = .returned (.agg #[.int .i64 (Ac 3 4).re, .int .i64 (Ac 3 4).im, .int .i64 (Ac 3 4).den]) ∧ Sm (w.heap.size + 1 + 1 + 1) false _ _ := ho.fn
                have hzw7 := hs.size
                (try simp at hzw7)
                have K7 := Lib.hid (K6.out.sm o hs)
                clear ho hs
                refine hK.out _ _ (show _ from ⟨⟨(K7.out.tf.one 15 (by omega)).1, (K7.out.tf.one 15 (by omega)).2.1, (K7.out.tf.one 15 (by omega)).2.2⟩, ⟨(K7.out.tf.two 3 (by omega)).1, (K7.out.tf.two 3 (by omega)).2.1, (K7.out.tf.two 3 (by omega)).2.2⟩⟩) (fun hHeld => ?_)
                clear hK Kp
                (try simp only [Act.put, List.getElem_toArray, List.getElem_cons_succ, List.getElem_cons_zero, List.setIfInBounds_toArray, List.set_cons_zero, List.set_cons_succ])
                obtain ⟨y0, q0⟩ := Option.isSome_iff_exists.1 (K7.out.room 0 (by omega)).1
                have fq0 := (K7.out.room 0 (by omega)).2
                obtain ⟨y1, q1⟩ := Option.isSome_iff_exists.1 (K7.out.room 1 (by omega)).1
                have fq1 := (K7.out.room 1 (by omega)).2
                obtain ⟨y2, q2⟩ := Option.isSome_iff_exists.1 (K7.out.room 2 (by omega)).1
                have fq2 := (K7.out.room 2 (by omega)).2
                refine wpAnyH_ready (rs := [16]) (by kernel_rfl) (by simp) ?_
                refine AllReadyH.cons rfl (fun Kp hK => ?_) AllReadyH.nil
                go_simp
                refine hK.out _ _ (show _ from ⟨⟨((K7.out.put o (Ac 3 4)).tf.one 15 (by omega)).1, ((K7.out.put o (Ac 3 4)).tf.one 15 (by omega)).2.1, ((K7.out.put o (Ac 3 4)).tf.one 15 (by omega)).2.2⟩, ⟨((K7.out.put o (Ac 3 4)).tf.two 3 (by omega)).1, ((K7.out.put o (Ac 3 4)).tf.two 3 (by omega)).2.1, ((K7.out.put o (Ac 3 4)).tf.two 3 (by omega)).2.2⟩⟩) (fun hHeld => ?_)
                clear hK Kp
                (try simp only [Act.put, List.getElem_toArray, List.getElem_cons_succ, List.getElem_cons_zero, List.setIfInBounds_toArray, List.set_cons_zero, List.set_cons_succ])
                refine wpAnyH_done (by kernel_rfl) ?_ _
                clear hHeld
                go_wp2
                go_roundw
                case rel =>
                  refine ⟨_, _, _, _, _, _, _, _, _, _, _, _, _, _, _, _, _, _, _, _, _, ⟨4, ?_, by omega, by omega, K7.out.put o _⟩, rfl⟩
                  first | rfl | go_num
                case measure => simp [intOf]
              · skip
                go_simp
                go_at_call 80
                (with_reducible refine (stimes_any (w.heap.size + 1 + 1 + 1) false (t.get 15) (v.get 3) _ (by have := K0.out.tf.size; have := o.hP; omega) K0.out.tf.cell K0.out.tf.free).mono ?_)
                rintro e w6 ho
                rw [e1] at ho
                obtain ⟨rfl, hs⟩ : e = .returned (.agg #[.int .i64 (Pd 3 3).re, .int .i64 (Pd 3 3).im, .int .i64 (Pd 3 3).den]) ∧ Sm (w.heap.size + 1 + 1 + 1) false _ _ := ho.fn
                have hzw6 := hs.size
                (try simp at hzw6)
                have K6 := Lib.hid (K0.out.sm o hs)
                clear ho hs
                obtain ⟨u0, u1, u2⟩ := K6.out.box.f3
                refine hK.out _ _ (show _ from ⟨⟨(K6.out.tf.one 15 (by omega)).1, (K6.out.tf.one 15 (by omega)).2.1, (K6.out.tf.one 15 (by omega)).2.2⟩, ⟨(K6.out.tf.two 3 (by omega)).1, (K6.out.tf.two 3 (by omega)).2.1, (K6.out.tf.two 3 (by omega)).2.2⟩⟩) (fun hHeld => ?_)
                clear hK Kp
                (try simp only [Act.put, List.getElem_toArray, List.getElem_cons_succ, List.getElem_cons_zero, List.setIfInBounds_toArray, List.set_cons_zero, List.set_cons_succ])
                refine wpAnyH_ready (rs := [1]) (by kernel_rfl) (by simp) ?_
                refine AllReadyH.cons rfl (fun Kp hK => ?_) AllReadyH.nil
                go_simp
                refine hK.out _ _ (show _ from ⟨⟨(K6.out.tf.one 15 (by omega)).1, (K6.out.tf.one 15 (by omega)).2.1, (K6.out.tf.one 15 (by omega)).2.2⟩, ⟨(K6.out.tf.two 3 (by omega)).1, (K6.out.tf.two 3 (by omega)).2.1, (K6.out.tf.two 3 (by omega)).2.2⟩⟩) (fun hHeld => ?_)
                clear hK Kp
                (try simp only [Act.put, List.getElem_toArray, List.getElem_cons_succ, List.getElem_cons_zero, List.setIfInBounds_toArray, List.set_cons_zero, List.set_cons_succ])
                refine wpAnyH_ready (rs := [15]) (by kernel_rfl) (by simp) ?_
                refine AllReadyH.cons rfl (fun Kp hK => ?_) AllReadyH.nil
                go_simp
                go_at_call 77
                (with_reducible refine (sadd_any (w.heap.size + 1 + 1 + 1) false (Ac 3 3) (Pd 3 3) _ (by have := K6.out.tf.size; have := o.hP; omega) K6.out.tf.cell K6.out.tf.free).mono ?_)
                rintro e w7 ho
                rw [e2] at ho
                obtain ⟨rfl, hs⟩ : e = .returned (.agg #[.int .i64 (Ac 3 4).re, .int .i64 (Ac 3 4).im, .int .i64 (Ac 3 4).den]) ∧ Sm (w.heap.size + 1 + 1 + 1) false _ _ := ho.fn
                have hzw7 := hs.size
                (try simp at hzw7)
                have K7 := Lib.hid (K6.out.sm o hs)
                clear ho hs
                refine hK.out _ _ (show _ from ⟨⟨(K7.out.tf.one 15 (by omega)).1, (K7.out.tf.one 15 (by omega)).2.1, (K7.out.tf.one 15 (by omega)).2.2⟩, ⟨(K7.out.tf.two 3 (by omega)).1, (K7.out.tf.two 3 (by omega)).2.1, (K7.out.tf.two 3 (by omega)).2.2⟩⟩) (fun hHeld => ?_)
                clear hK Kp
                (try simp only [Act.put, List.getElem_toArray, List.getElem_cons_succ, List.getElem_cons_zero, List.setIfInBounds_toArray, List.set_cons_zero, List.set_cons_succ])
                obtain ⟨y0, q0⟩ := Option.isSome_iff_exists.1 (K7.out.room 0 (by omega)).1
                have fq0 := (K7.out.room 0 (by omega)).2
                obtain ⟨y1, q1⟩ := Option.isSome_iff_exists.1 (K7.out.room 1 (by omega)).1
                have fq1 := (K7.out.room 1 (by omega)).2
                obtain ⟨y2, q2⟩ := Option.isSome_iff_exists.1 (K7.out.room 2 (by omega)).1
                have fq2 := (K7.out.room 2 (by omega)).2
                refine wpAnyH_ready (rs := [16]) (by kernel_rfl) (by simp) ?_
                refine AllReadyH.cons rfl (fun Kp hK => ?_) AllReadyH.nil
                go_simp
                refine hK.out _ _ (show _ from ⟨⟨((K7.out.put o (Ac 3 4)).tf.one 15 (by omega)).1, ((K7.out.put o (Ac 3 4)).tf.one 15 (by omega)).2.1, ((K7.out.put o (Ac 3 4)).tf.one 15 (by omega)).2.2⟩, ⟨((K7.out.put o (Ac 3 4)).tf.two 3 (by omega)).1, ((K7.out.put o (Ac 3 4)).tf.two 3 (by omega)).2.1, ((K7.out.put o (Ac 3 4)).tf.two 3 (by omega)).2.2⟩⟩) (fun hHeld => ?_)
                clear hK Kp
                (try simp only [Act.put, List.getElem_toArray, List.getElem_cons_succ, List.getElem_cons_zero, List.setIfInBounds_toArray, List.set_cons_zero, List.set_cons_succ])
                refine wpAnyH_done (by kernel_rfl) ?_ _
                clear hHeld
                go_wp2
                go_roundw
                case rel =>
                  refine ⟨_, _, _, _, _, _, _, _, _, _, _, _, _, _, _, _, _, _, _, _, _, ⟨4, ?_, by omega, by omega, K7.out.put o _⟩, rfl⟩
                  first | rfl | go_num
                case measure => simp [intOf]
          · obtain rfl : k = 4 := by omega
            clear hk1 hk4 h5
            obtain ⟨x0, x1, x2⟩ := hX.box.f3
            have hzO := hX.tf.size
            have hnX : ¬ X = w3.heap.size := by omega
            have hnX2 : ¬ w3.heap.size = X := by omega
            obtain ⟨y0, q0⟩ := Option.isSome_iff_exists.1 (hX.tf.room 9 (by omega)).1
            have fq0 := (hX.tf.room 9 (by omega)).2
            obtain ⟨y1, q1⟩ := Option.isSome_iff_exists.1 (hX.tf.room 10 (by omega)).1
            have fq1 := (hX.tf.room 10 (by omega)).2
            obtain ⟨y2, q2⟩ := Option.isSome_iff_exists.1 (hX.tf.room 11 (by omega)).1
            have fq2 := (hX.tf.room 11 (by omega)).2
            have HT := Lib.hid (hX.tf.put o (by omega))
            clear hX
            go_wp2
            go_roundw
            case rel => exact ⟨4, by first | rfl | go_num, HT.out⟩
            case measure => simp [intOf]
    · obtain rfl : r = 4 := by have := hT.le; omega
      have hz2 := hT.size
      have hsc := hT.cell
      obtain ⟨a1, a2, a3, a4, a5, a6, a7, a8, a9⟩ := o
      have HO : Hid (BoxAt wr w3.heap.size m.get 4) := fun k hk => by rw [hm k hk]; exact hT.out k hk
      have HR := Lib.hid hT.res
      have HB := Lib.hid hT.below
      clear hT
      go_wp2_with (first | ((with_reducible refine wpList_load_mid ?kzz1 51 ?kzzx ?kzz2 (w3.heap.size) 0 ?kzz3 (cl m.get 4) ?kzzd ?kzz4 ?kzz5 ?kzz6 ?kzz7 ?kzz8); (case kzz2 => rfl); (case kzz1 => rfl); (case kzz3 => rfl); (case kzz4 => exact (HO.out.range)); (case kzz5 => exact Tryd.underlying51); (case kzz6 => rfl); (case kzz7 => kernel_rfl)) | (go_at_call 95; (with_reducible refine (gotStokes_cl_yes (w.heap.size + 1 + 1 + 1) m _ (by omega) hsc).mono ?_); rintro e w4 ⟨rfl, hb⟩; have HR := Lib.hid (HR.out.below hb (by omega)); have HB := Lib.hid (show Below w.heap.size w w4 from HB.out.trans (hb.mono HB.out.size)); clear hb hsc) | ((with_reducible refine wpList_store_mid ?hzz1 51 ?hzzx ?hzzy ?hzz2 (w.heap.size + 1 + 1) 0 (cl m.get 4).toArray ?hzz3 ?hzz4 ?hzz5 ?hzz6 ?hzz7 ?hzz8); (case hzz2 => rfl); (case hzz1 => rfl); (case hzz3 => rfl); (case hzz4 => rfl); (case hzz5 => exact (HR.out.thereC _)); (case hzz6 => kernel_rfl); (case hzz7 => exact (cl_one _ _))))
      refine bodyPost_ret (v := .tuple #[.agg (cl m.get 4).toArray, .bool true]) ?_ rfl ⟨rfl, setCells_below _ _ _ HB.out (by omega)⟩
      exact Eq.trans (results_cell_mid2 rfl _ _ (w.heap.size + 1 + 1) (cl m.get 4) _ (by rfl) (World.rangeAt_setCells_same _ (w.heap.size + 1 + 1) 0 _ (HR.out.thereC _)) Tryd.underlying51 rfl (by kernel_rfl)) rfl
end Go.Proofs.YtmcokdiopcpifaaDoor
