/- Contracts: squares of the numbers of polarisation, the program's side. -/
import Derived.Test.YtmcokdiopcpifaaDoorPjG12
import Derived.Deep.RegionLaw
import Derived.Deep.DeepCutAuto
set_option maxRecDepth 100000
namespace Go.Proofs.YtmcokdiopcpifaaDoor
open Go.RowKit Pol
set_option maxRecDepth 100000 in
set_option maxHeartbeats 40000000 in
theorem isq_any (a : M4) (w : World) :
    Calls Tryd.prog 129 #[.agg #[.int .i64 a.a.re, .int .i64 a.a.im, .int .i64 a.a.den, .int .i64 a.b.re, .int .i64 a.b.im, .int .i64 a.b.den, .int .i64 a.c.re, .int .i64 a.c.im, .int .i64 a.c.den, .int .i64 a.d.re, .int .i64 a.d.im, .int .i64 a.d.den]] w (FrOut (sSq a) w) := by
  have HB : Hid (Below w.heap.size w (((w.alloc (.cells #[.int .i64 a.a.re, .int .i64 a.a.im, .int .i64 a.a.den, .int .i64 a.b.re, .int .i64 a.b.im, .int .i64 a.b.den, .int .i64 a.c.re, .int .i64 a.c.im, .int .i64 a.c.den, .int .i64 a.d.re, .int .i64 a.d.im, .int .i64 a.d.den] 51)).alloc (.cells #[.int .i64 0, .int .i64 0, .int .i64 0] 23)).alloc (.cells #[.bool false] 102))) := by
    show Below _ _ _
    (repeat' first | exact Below.refl _ _ | apply bl_alloc | apply bl_drewN | apply bl_drew | refine bl_trans ?_ (by assumption) | refine bl_set ?_ (by first | omega | (simp <;> omega)) _)
  have HR : Hid (Room (((w.alloc (.cells #[.int .i64 a.a.re, .int .i64 a.a.im, .int .i64 a.a.den, .int .i64 a.b.re, .int .i64 a.b.im, .int .i64 a.b.den, .int .i64 a.c.re, .int .i64 a.c.im, .int .i64 a.c.den, .int .i64 a.d.re, .int .i64 a.d.im, .int .i64 a.d.den] 51)).alloc (.cells #[.int .i64 0, .int .i64 0, .int .i64 0] 23)).alloc (.cells #[.bool false] 102)) (w.heap.size + 1) 1) := by
    show Room _ _ _
    exact (Room.new' (by simp) rfl).alloc (by simp) _
  have HX : Hid (BoxAt (((w.alloc (.cells #[.int .i64 a.a.re, .int .i64 a.a.im, .int .i64 a.a.den, .int .i64 a.b.re, .int .i64 a.b.im, .int .i64 a.b.den, .int .i64 a.c.re, .int .i64 a.c.im, .int .i64 a.c.den, .int .i64 a.d.re, .int .i64 a.d.im, .int .i64 a.d.den] 51)).alloc (.cells #[.int .i64 0, .int .i64 0, .int .i64 0] 23)).alloc (.cells #[.bool false] 102)) (w.heap.size) a.get 4) := by
    show BoxAt _ _ _ _
    exact ((BoxAt.new _ _ _ _ _ (src4 a)).alloc (by simp) _).alloc (by simp) _
  have hsc : (((w.alloc (.cells #[.int .i64 a.a.re, .int .i64 a.a.im, .int .i64 a.a.den, .int .i64 a.b.re, .int .i64 a.b.im, .int .i64 a.b.den, .int .i64 a.c.re, .int .i64 a.c.im, .int .i64 a.c.den, .int .i64 a.d.re, .int .i64 a.d.im, .int .i64 a.d.den] 51)).alloc (.cells #[.int .i64 0, .int .i64 0, .int .i64 0] 23)).alloc (.cells #[.bool false] 102)).cell? ⟨w.heap.size + 1 + 1, 0, none⟩ = some (.bool false) := by simp [go_sem]
  have hsf : (((w.alloc (.cells #[.int .i64 a.a.re, .int .i64 a.a.im, .int .i64 a.a.den, .int .i64 a.b.re, .int .i64 a.b.im, .int .i64 a.b.den, .int .i64 a.c.re, .int .i64 a.c.im, .int .i64 a.c.den, .int .i64 a.d.re, .int .i64 a.d.im, .int .i64 a.d.den] 51)).alloc (.cells #[.int .i64 0, .int .i64 0, .int .i64 0] 23)).alloc (.cells #[.bool false] 102)).frozen? ⟨w.heap.size + 1 + 1, 0, none⟩ = false := by simp [go_sem]
  cases hg : (sSq a).2
  · have HE := Lib.hid ((ends (gt_end _ _ _).1).1 hg)
    have HG : Hid (sSq a = (fz, false)) := gt_no hg
    clear hg
    go_enter Tryd.func129, Tryd.ntmps129
    go_wp2_with fail
    refine (istokesvalid_any a _).mono ?_
    rintro e w1 ⟨rfl, hb⟩
    have HR := Lib.hid (HR.out.below hb (by first | omega | (simp <;> omega)))
    have HX := Lib.hid (HX.out.below hb (by first | omega | (simp <;> omega)))
    have HB := Lib.hid (show Below w.heap.size w w1 from HB.out.trans (hb.mono HB.out.size))
    have hsc := (hb.cell (p := ⟨w.heap.size + 1 + 1, 0, none⟩) (by first | (show _ < _; omega) | (simp <;> omega))).trans hsc
    have hsf := (hb.frozen (p := ⟨w.heap.size + 1 + 1, 0, none⟩) (by first | (show _ < _; omega) | (simp <;> omega))).trans hsf
    obtain ⟨hc, hf, hz⟩ := bcellk (B := w.heap.size + 1 + 1 + 1) hb (by first | omega | (simp <;> omega))
    clear hb
    go_wp2_with fail
    refine (need_any (w.heap.size + 1 + 1) false (all4 realB a) w1 (by omega) hsc hsf).mono ?_
    rintro e w2 ho
    obtain ⟨rfl, hs⟩ := ho.fn
    have HR := Lib.hid (HR.out.sm hs (by first | omega | (simp <;> omega)) (by omega))
    have HX := Lib.hid (HX.out.sm hs (by first | omega | (simp <;> omega)) (by omega))
    have HB := Lib.hid (show Below w.heap.size w w2 from hs.own HB.out (by omega))
    have hsc := hs.cell
    have hsf := hs.free
    have hz : w.heap.size + 1 + 1 + 1 ≤ w2.heap.size := Nat.le_trans (by first | omega | (simp <;> omega)) hs.size
    clear ho hs hc hf
    have x0 : w2.cell? ⟨w.heap.size, 3, none⟩ = some (.int .i64 a.b.re) := (HX.out 1 (by omega)).1
    have x1 : w2.cell? ⟨w.heap.size, 4, none⟩ = some (.int .i64 a.b.im) := (HX.out 1 (by omega)).2.1
    have x2 : w2.cell? ⟨w.heap.size, 5, none⟩ = some (.int .i64 a.b.den) := (HX.out 1 (by omega)).2.2
    go_wp2_with fail
    refine (stimes_any (w.heap.size + 1 + 1) _ a.b a.b w2 (by omega) hsc hsf).mono ?_
    rintro e w3 ho
    obtain ⟨rfl, hs⟩ := ho.fn
    have HR := Lib.hid (HR.out.sm hs (by first | omega | (simp <;> omega)) (by omega))
    have HX := Lib.hid (HX.out.sm hs (by first | omega | (simp <;> omega)) (by omega))
    have HB := Lib.hid (show Below w.heap.size w w3 from hs.own HB.out (by omega))
    have hsc := hs.cell
    have hsf := hs.free
    have hz3 : w.heap.size + 1 + 1 + 1 ≤ w3.heap.size := Nat.le_trans hz hs.size
    clear ho hs x0 x1 x2 hz
    obtain ⟨W, hW⟩ : ∃ W, W = w3.alloc (.cells #[.int .i64 (fTimes a.b a.b).1.re, .int .i64 (fTimes a.b a.b).1.im, .int .i64 (fTimes a.b a.b).1.den] 23) := ⟨_, rfl⟩
    have HX : Hid (BoxAt W (w.heap.size) a.get 4) := by rw [hW]; exact HX.out.alloc (by omega) _
    have HR : Hid (Room W (w.heap.size + 1) 1) := by rw [hW]; exact HR.out.alloc (by omega) _
    have HB : Hid (Below w.heap.size w W) := by rw [hW]; exact HB.out.alloc (by omega) _
    have HC : Hid (Room W w3.heap.size 1) := by rw [hW]; exact Room.new' rfl rfl
    have HA : Hid (BoxAt W w3.heap.size (fun _ => (fTimes a.b a.b).1) 1) := by rw [hW]; exact BoxAt.new _ _ _ _ _ (src1 (fTimes a.b a.b).1)
    have hsc : W.cell? ⟨w.heap.size + 1 + 1, 0, none⟩ = some (.bool ((false || !all4 realB a) || !(fTimes a.b a.b).2)) := by rw [hW]; exact (World.cell?_alloc_old w3 (.cells #[.int .i64 (fTimes a.b a.b).1.re, .int .i64 (fTimes a.b a.b).1.im, .int .i64 (fTimes a.b a.b).1.den] 23) ⟨w.heap.size + 1 + 1, 0, none⟩ (show w.heap.size + 1 + 1 ≠ w3.heap.size by omega)).trans hsc
    have hsf : W.frozen? ⟨w.heap.size + 1 + 1, 0, none⟩ = false := by rw [hW]; exact (World.frozen?_alloc_old w3 (.cells #[.int .i64 (fTimes a.b a.b).1.re, .int .i64 (fTimes a.b a.b).1.im, .int .i64 (fTimes a.b a.b).1.den] 23) ⟨w.heap.size + 1 + 1, 0, none⟩ (show w.heap.size + 1 + 1 ≠ w3.heap.size by omega)).trans hsf
    have hzW : w3.heap.size + 1 ≤ W.heap.size := by rw [hW]; simp
    go_wp2
    rw [← hW]
    clear hW
    go_cut [] (fun wx => Below w.heap.size w wx ∧ w3.heap.size + 1 ≤ wx.heap.size ∧ BoxAt wx (w.heap.size) a.get 4 ∧ Room wx (w.heap.size + 1) 1 ∧ Room wx w3.heap.size 1 ∧ BoxAt wx w3.heap.size (fun _ => (fAdd (fTimes a.b a.b).1 (fTimes a.c a.c).1).1) 1 ∧ wx.cell? ⟨w.heap.size + 1 + 1, 0, none⟩ = some (.bool ((((false || !all4 realB a) || !(fTimes a.b a.b).2) || !(fTimes a.c a.c).2) || !(fAdd (fTimes a.b a.b).1 (fTimes a.c a.c).1).2)) ∧ wx.frozen? ⟨w.heap.size + 1 + 1, 0, none⟩ = false)
    case first =>
      have hsc : W.drew.cell? ⟨w.heap.size + 1 + 1, 0, none⟩ = _ := hsc
      have hsf : W.drew.frozen? ⟨w.heap.size + 1 + 1, 0, none⟩ = false := hsf
      have HX : Hid (BoxAt W.drew (w.heap.size) a.get 4) := HX.out
      have HR : Hid (Room W.drew (w.heap.size + 1) 1) := HR.out
      have HC : Hid (Room W.drew w3.heap.size 1) := HC.out
      have HA : Hid (BoxAt W.drew w3.heap.size (fun _ => (fTimes a.b a.b).1) 1) := HA.out
      have HB : Hid (Below w.heap.size w W.drew) := HB.out.drew
      have b0 : W.drew.cell? ⟨w.heap.size, 6, none⟩ = some (.int .i64 a.c.re) := (HX.out 2 (by omega)).1
      have b1 : W.drew.cell? ⟨w.heap.size, 7, none⟩ = some (.int .i64 a.c.im) := (HX.out 2 (by omega)).2.1
      have b2 : W.drew.cell? ⟨w.heap.size, 8, none⟩ = some (.int .i64 a.c.den) := (HX.out 2 (by omega)).2.2
      have ac0 : W.drew.cell? ⟨w3.heap.size, 0, none⟩ = some (.int .i64 (fTimes a.b a.b).1.re) := (HA.out 0 (by omega)).1
      have ac1 : W.drew.cell? ⟨w3.heap.size, 1, none⟩ = some (.int .i64 (fTimes a.b a.b).1.im) := (HA.out 0 (by omega)).2.1
      have ac2 : W.drew.cell? ⟨w3.heap.size, 2, none⟩ = some (.int .i64 (fTimes a.b a.b).1.den) := (HA.out 0 (by omega)).2.2
      go_region_law (first | (go_simp; go_at_call 77; (with_reducible refine (sadd_any (w.heap.size + 1 + 1) _ (fTimes a.b a.b).1 (fTimes a.c a.c).1 _ (by first | omega | (simp <;> omega)) hsc hsf).mono ?_); rintro e w5 ho; obtain ⟨rfl, hs⟩ := ho.fn; have r0 : w5.cell? ⟨w.heap.size, 6, none⟩ = some (.int .i64 a.c.re) := (hs.atc (w.heap.size) (by first | omega | (simp <;> omega)) (by omega) 6).trans q0; have r1 : w5.cell? ⟨w.heap.size, 7, none⟩ = some (.int .i64 a.c.im) := (hs.atc (w.heap.size) (by first | omega | (simp <;> omega)) (by omega) 7).trans q1; have r2 : w5.cell? ⟨w.heap.size, 8, none⟩ = some (.int .i64 a.c.den) := (hs.atc (w.heap.size) (by first | omega | (simp <;> omega)) (by omega) 8).trans q2; have HR := Lib.hid (HR.out.sm hs (by first | omega | (simp <;> omega)) (by omega)); have HX := Lib.hid (HX.out.sm hs (by first | omega | (simp <;> omega)) (by omega)); have HB := Lib.hid (show Below w.heap.size w w5 from hs.own HB.out (by omega)); have hsc := hs.cell; have hsf := hs.free; have HC := Lib.hid (HC.out.sm hs (by first | omega | (simp <;> omega)) (by omega)); have hzw5 : w3.heap.size + 1 ≤ w5.heap.size := Nat.le_trans (by first | omega | (simp <;> omega)) hs.size; have s0 := fun u v x => (far3 (i := 0) (j := 1) (k := 2) (u := u) (v := v) (x := x) (show w3.heap.size ≠ w.heap.size by omega)).trans r0; have s1 := fun u v x => (far3 (i := 0) (j := 1) (k := 2) (u := u) (v := v) (x := x) (show w3.heap.size ≠ w.heap.size by omega)).trans r1; have s2 := fun u v x => (far3 (i := 0) (j := 1) (k := 2) (u := u) (v := v) (x := x) (show w3.heap.size ≠ w.heap.size by omega)).trans r2; obtain ⟨y0, e0⟩ := Option.isSome_iff_exists.1 (HC.out 0 (by omega)).1; have f0 := (HC.out 0 (by omega)).2; obtain ⟨y1, e1⟩ := Option.isSome_iff_exists.1 (HC.out 1 (by omega)).1; have f1 := (HC.out 1 (by omega)).2; obtain ⟨y2, e2⟩ := Option.isSome_iff_exists.1 (HC.out 2 (by omega)).1; have f2 := (HC.out 2 (by omega)).2; clear ho hs) | (go_simp; go_at_call 80; (with_reducible refine (stimes_any (w.heap.size + 1 + 1) _ a.c a.c _ (by first | omega | (simp <;> omega)) hsc hsf).mono ?_); rintro e w4 ho; obtain ⟨rfl, hs⟩ := ho.fn; have q0 : w4.cell? ⟨w.heap.size, 6, none⟩ = some (.int .i64 a.c.re) := (hs.atc (w.heap.size) (by first | omega | (simp <;> omega)) (by omega) 6).trans b0; have q1 : w4.cell? ⟨w.heap.size, 7, none⟩ = some (.int .i64 a.c.im) := (hs.atc (w.heap.size) (by first | omega | (simp <;> omega)) (by omega) 7).trans b1; have q2 : w4.cell? ⟨w.heap.size, 8, none⟩ = some (.int .i64 a.c.den) := (hs.atc (w.heap.size) (by first | omega | (simp <;> omega)) (by omega) 8).trans b2; have HR := Lib.hid (HR.out.sm hs (by first | omega | (simp <;> omega)) (by omega)); have HX := Lib.hid (HX.out.sm hs (by first | omega | (simp <;> omega)) (by omega)); have HB := Lib.hid (show Below w.heap.size w w4 from hs.own HB.out (by omega)); have hsc := hs.cell; have hsf := hs.free; have HC := Lib.hid (HC.out.sm hs (by first | omega | (simp <;> omega)) (by omega)); have hzw4 : w3.heap.size + 1 ≤ w4.heap.size := Nat.le_trans (by first | omega | (simp <;> omega)) hs.size; have HA := Lib.hid (HA.out.sm hs (by first | omega | (simp <;> omega)) (by omega)); have ad0 : w4.cell? ⟨w3.heap.size, 0, none⟩ = some (.int .i64 (fTimes a.b a.b).1.re) := (HA.out 0 (by omega)).1; have ad1 : w4.cell? ⟨w3.heap.size, 1, none⟩ = some (.int .i64 (fTimes a.b a.b).1.im) := (HA.out 0 (by omega)).2.1; have ad2 : w4.cell? ⟨w3.heap.size, 2, none⟩ = some (.int .i64 (fTimes a.b a.b).1.den) := (HA.out 0 (by omega)).2.2; clear ho hs))
      all_goals (go_wp2_with fail; go_meet)
      all_goals (exact ⟨((HB.out.setCell (by show _ ≤ w3.heap.size; omega) _).setCell (by show _ ≤ w3.heap.size; omega) _).setCell (by show _ ≤ w3.heap.size; omega) _, (by simp; omega), HX.out.put_other (M := w3.heap.size) (by omega) 0 (fAdd (fTimes a.b a.b).1 (fTimes a.c a.c).1).1, HR.out.put w3.heap.size 0 (fAdd (fTimes a.b a.b).1 (fTimes a.c a.c).1).1, HC.out.put w3.heap.size 0 (fAdd (fTimes a.b a.b).1 (fTimes a.c a.c).1).1, BoxAt.put (g := fun _ => (fAdd (fTimes a.b a.b).1 (fTimes a.c a.c).1).1) (k := 0) (fun k hk => absurd hk (by omega)) HC.out (by omega), (far3 (show w3.heap.size ≠ w.heap.size + 1 + 1 by omega)).trans hsc, (by rw [World.frozen?_setCell, World.frozen?_setCell, World.frozen?_setCell]; exact hsf)⟩)
    case rest =>
    clear HX HR HB HC HA hsc hsf
    obtain ⟨hB, hzV, hX, hR, hC, hA, hsc, hsf⟩ := hcut
    have HX := Lib.hid hX
    have HR := Lib.hid hR
    have HB := Lib.hid hB
    have HC := Lib.hid hC
    have HA := Lib.hid hA
    clear hX hR hB hC hA
    go_wp2
    go_cut [] (fun wx => Below w.heap.size w wx ∧ w3.heap.size + 1 ≤ wx.heap.size ∧ BoxAt wx (w.heap.size) a.get 4 ∧ Room wx (w.heap.size + 1) 1 ∧ Room wx w3.heap.size 1 ∧ BoxAt wx w3.heap.size (fun _ => (fAdd (fAdd (fTimes a.b a.b).1 (fTimes a.c a.c).1).1 (fTimes a.d a.d).1).1) 1 ∧ wx.cell? ⟨w.heap.size + 1 + 1, 0, none⟩ = some (.bool ((((((false || !all4 realB a) || !(fTimes a.b a.b).2) || !(fTimes a.c a.c).2) || !(fAdd (fTimes a.b a.b).1 (fTimes a.c a.c).1).2) || !(fTimes a.d a.d).2) || !(fAdd (fAdd (fTimes a.b a.b).1 (fTimes a.c a.c).1).1 (fTimes a.d a.d).1).2)) ∧ wx.frozen? ⟨w.heap.size + 1 + 1, 0, none⟩ = false)
    case first =>
      have hsc : wc.drew.cell? ⟨w.heap.size + 1 + 1, 0, none⟩ = _ := hsc
      have hsf : wc.drew.frozen? ⟨w.heap.size + 1 + 1, 0, none⟩ = false := hsf
      have HX : Hid (BoxAt wc.drew (w.heap.size) a.get 4) := HX.out
      have HR : Hid (Room wc.drew (w.heap.size + 1) 1) := HR.out
      have HC : Hid (Room wc.drew w3.heap.size 1) := HC.out
      have HA : Hid (BoxAt wc.drew w3.heap.size (fun _ => (fAdd (fTimes a.b a.b).1 (fTimes a.c a.c).1).1) 1) := HA.out
      have HB : Hid (Below w.heap.size w wc.drew) := HB.out.drew
      have b0 : wc.drew.cell? ⟨w.heap.size, 9, none⟩ = some (.int .i64 a.d.re) := (HX.out 3 (by omega)).1
      have b1 : wc.drew.cell? ⟨w.heap.size, 10, none⟩ = some (.int .i64 a.d.im) := (HX.out 3 (by omega)).2.1
      have b2 : wc.drew.cell? ⟨w.heap.size, 11, none⟩ = some (.int .i64 a.d.den) := (HX.out 3 (by omega)).2.2
      have ac0 : wc.drew.cell? ⟨w3.heap.size, 0, none⟩ = some (.int .i64 (fAdd (fTimes a.b a.b).1 (fTimes a.c a.c).1).1.re) := (HA.out 0 (by omega)).1
      have ac1 : wc.drew.cell? ⟨w3.heap.size, 1, none⟩ = some (.int .i64 (fAdd (fTimes a.b a.b).1 (fTimes a.c a.c).1).1.im) := (HA.out 0 (by omega)).2.1
      have ac2 : wc.drew.cell? ⟨w3.heap.size, 2, none⟩ = some (.int .i64 (fAdd (fTimes a.b a.b).1 (fTimes a.c a.c).1).1.den) := (HA.out 0 (by omega)).2.2
      go_region_law (first | (go_simp; go_at_call 77; (with_reducible refine (sadd_any (w.heap.size + 1 + 1) _ (fAdd (fTimes a.b a.b).1 (fTimes a.c a.c).1).1 (fTimes a.d a.d).1 _ (by first | omega | (simp <;> omega)) hsc hsf).mono ?_); rintro e w7 ho; obtain ⟨rfl, hs⟩ := ho.fn; have r0 : w7.cell? ⟨w.heap.size, 9, none⟩ = some (.int .i64 a.d.re) := (hs.atc (w.heap.size) (by first | omega | (simp <;> omega)) (by omega) 9).trans q0; have r1 : w7.cell? ⟨w.heap.size, 10, none⟩ = some (.int .i64 a.d.im) := (hs.atc (w.heap.size) (by first | omega | (simp <;> omega)) (by omega) 10).trans q1; have r2 : w7.cell? ⟨w.heap.size, 11, none⟩ = some (.int .i64 a.d.den) := (hs.atc (w.heap.size) (by first | omega | (simp <;> omega)) (by omega) 11).trans q2; have HR := Lib.hid (HR.out.sm hs (by first | omega | (simp <;> omega)) (by omega)); have HX := Lib.hid (HX.out.sm hs (by first | omega | (simp <;> omega)) (by omega)); have HB := Lib.hid (show Below w.heap.size w w7 from hs.own HB.out (by omega)); have hsc := hs.cell; have hsf := hs.free; have HC := Lib.hid (HC.out.sm hs (by first | omega | (simp <;> omega)) (by omega)); have hzw7 : w3.heap.size + 1 ≤ w7.heap.size := Nat.le_trans (by first | omega | (simp <;> omega)) hs.size; have s0 := fun u v x => (far3 (i := 0) (j := 1) (k := 2) (u := u) (v := v) (x := x) (show w3.heap.size ≠ w.heap.size by omega)).trans r0; have s1 := fun u v x => (far3 (i := 0) (j := 1) (k := 2) (u := u) (v := v) (x := x) (show w3.heap.size ≠ w.heap.size by omega)).trans r1; have s2 := fun u v x => (far3 (i := 0) (j := 1) (k := 2) (u := u) (v := v) (x := x) (show w3.heap.size ≠ w.heap.size by omega)).trans r2; obtain ⟨y0, e0⟩ := Option.isSome_iff_exists.1 (HC.out 0 (by omega)).1; have f0 := (HC.out 0 (by omega)).2; obtain ⟨y1, e1⟩ := Option.isSome_iff_exists.1 (HC.out 1 (by omega)).1; have f1 := (HC.out 1 (by omega)).2; obtain ⟨y2, e2⟩ := Option.isSome_iff_exists.1 (HC.out 2 (by omega)).1; have f2 := (HC.out 2 (by omega)).2; clear ho hs) | (go_simp; go_at_call 80; (with_reducible refine (stimes_any (w.heap.size + 1 + 1) _ a.d a.d _ (by first | omega | (simp <;> omega)) hsc hsf).mono ?_); rintro e w6 ho; obtain ⟨rfl, hs⟩ := ho.fn; have q0 : w6.cell? ⟨w.heap.size, 9, none⟩ = some (.int .i64 a.d.re) := (hs.atc (w.heap.size) (by first | omega | (simp <;> omega)) (by omega) 9).trans b0; have q1 : w6.cell? ⟨w.heap.size, 10, none⟩ = some (.int .i64 a.d.im) := (hs.atc (w.heap.size) (by first | omega | (simp <;> omega)) (by omega) 10).trans b1; have q2 : w6.cell? ⟨w.heap.size, 11, none⟩ = some (.int .i64 a.d.den) := (hs.atc (w.heap.size) (by first | omega | (simp <;> omega)) (by omega) 11).trans b2; have HR := Lib.hid (HR.out.sm hs (by first | omega | (simp <;> omega)) (by omega)); have HX := Lib.hid (HX.out.sm hs (by first | omega | (simp <;> omega)) (by omega)); have HB := Lib.hid (show Below w.heap.size w w6 from hs.own HB.out (by omega)); have hsc := hs.cell; have hsf := hs.free; have HC := Lib.hid (HC.out.sm hs (by first | omega | (simp <;> omega)) (by omega)); have hzw6 : w3.heap.size + 1 ≤ w6.heap.size := Nat.le_trans (by first | omega | (simp <;> omega)) hs.size; have HA := Lib.hid (HA.out.sm hs (by first | omega | (simp <;> omega)) (by omega)); have ad0 : w6.cell? ⟨w3.heap.size, 0, none⟩ = some (.int .i64 (fAdd (fTimes a.b a.b).1 (fTimes a.c a.c).1).1.re) := (HA.out 0 (by omega)).1; have ad1 : w6.cell? ⟨w3.heap.size, 1, none⟩ = some (.int .i64 (fAdd (fTimes a.b a.b).1 (fTimes a.c a.c).1).1.im) := (HA.out 0 (by omega)).2.1; have ad2 : w6.cell? ⟨w3.heap.size, 2, none⟩ = some (.int .i64 (fAdd (fTimes a.b a.b).1 (fTimes a.c a.c).1).1.den) := (HA.out 0 (by omega)).2.2; clear ho hs))
      all_goals (go_wp2_with fail; go_meet)
      all_goals (exact ⟨((HB.out.setCell (by show _ ≤ w3.heap.size; omega) _).setCell (by show _ ≤ w3.heap.size; omega) _).setCell (by show _ ≤ w3.heap.size; omega) _, (by simp; omega), HX.out.put_other (M := w3.heap.size) (by omega) 0 (fAdd (fAdd (fTimes a.b a.b).1 (fTimes a.c a.c).1).1 (fTimes a.d a.d).1).1, HR.out.put w3.heap.size 0 (fAdd (fAdd (fTimes a.b a.b).1 (fTimes a.c a.c).1).1 (fTimes a.d a.d).1).1, HC.out.put w3.heap.size 0 (fAdd (fAdd (fTimes a.b a.b).1 (fTimes a.c a.c).1).1 (fTimes a.d a.d).1).1, BoxAt.put (g := fun _ => (fAdd (fAdd (fTimes a.b a.b).1 (fTimes a.c a.c).1).1 (fTimes a.d a.d).1).1) (k := 0) (fun k hk => absurd hk (by omega)) HC.out (by omega), (far3 (show w3.heap.size ≠ w.heap.size + 1 + 1 by omega)).trans hsc, (by rw [World.frozen?_setCell, World.frozen?_setCell, World.frozen?_setCell]; exact hsf)⟩)
    case rest =>
    clear HX HR HB HC HA hsc hsf
    obtain ⟨hB, hzV, hX, hR, hC, hA, hsc, hsf⟩ := hcut
    have HX := Lib.hid hX
    have HR := Lib.hid hR
    have HB := Lib.hid hB
    have HC := Lib.hid hC
    have HA := Lib.hid hA
    clear hX hR hB hC hA
    have z0 : wc.cell? ⟨w3.heap.size, 0, none⟩ = some (.int .i64 (fAdd (fAdd (fTimes a.b a.b).1 (fTimes a.c a.c).1).1 (fTimes a.d a.d).1).1.re) := (HA.out 0 (by omega)).1
    have z1 : wc.cell? ⟨w3.heap.size, 1, none⟩ = some (.int .i64 (fAdd (fAdd (fTimes a.b a.b).1 (fTimes a.c a.c).1).1 (fTimes a.d a.d).1).1.im) := (HA.out 0 (by omega)).2.1
    have z2 : wc.cell? ⟨w3.heap.size, 2, none⟩ = some (.int .i64 (fAdd (fAdd (fTimes a.b a.b).1 (fTimes a.c a.c).1).1 (fTimes a.d a.d).1).1.den) := (HA.out 0 (by omega)).2.2
    go_wp2_with (go_at_call 88; (with_reducible refine (gotFrac_no (w.heap.size + 1 + 1) (fAdd (fAdd (fTimes a.b a.b).1 (fTimes a.c a.c).1).1 (fTimes a.d a.d).1).1 _ (by omega) (hsc.trans (congrArg (fun x => some (Value.bool x)) HE.out))).mono ?_); rintro e w8 ⟨rfl, hb⟩; have HR := Lib.hid (HR.out.below hb (by omega)); have HB := Lib.hid (show Below w.heap.size w w8 from HB.out.trans (hb.mono HB.out.size)); obtain ⟨y0, e0⟩ := Option.isSome_iff_exists.1 (HR.out 0 (by omega)).1; obtain ⟨y1, e1⟩ := Option.isSome_iff_exists.1 (HR.out 1 (by omega)).1; obtain ⟨y2, e2⟩ := Option.isSome_iff_exists.1 (HR.out 2 (by omega)).1; have f0 := (HR.out 0 (by omega)).2; have f1 := (HR.out 1 (by omega)).2; have f2 := (HR.out 2 (by omega)).2; clear hb z0 z1 z2)
    refine bodyPost_ret (v := .tuple #[.agg #[.int .i64 0, .int .i64 0, .int .i64 0], .bool false]) (by simp [results, Tryd.results129, go_sem, e0, e1, e2]) rfl ?_
    exact FrOut.no HG.out (by (repeat' first | (with_reducible exact HB.out) | with_reducible refine setCells_below _ _ _ ?_ (by first | omega | (simp <;> omega)) | with_reducible refine Below.setCell ?_ (by show _ ≤ _; first | omega | (simp <;> omega) | simp) _ | with_reducible refine Below.alloc ?_ (by first | omega | (simp <;> omega)) _ | with_reducible apply Below.drew))
  · have HE := Lib.hid ((ends (gt_end _ _ _).1).2 hg)
    have HV := Lib.hid ((gt_end _ _ _).2 hg)
    have HG := Lib.hid hg; clear hg
    go_enter Tryd.func129, Tryd.ntmps129
    go_wp2_with fail
    refine (istokesvalid_any a _).mono ?_
    rintro e w1 ⟨rfl, hb⟩
    have HR := Lib.hid (HR.out.below hb (by first | omega | (simp <;> omega)))
    have HX := Lib.hid (HX.out.below hb (by first | omega | (simp <;> omega)))
    have HB := Lib.hid (show Below w.heap.size w w1 from HB.out.trans (hb.mono HB.out.size))
    have hsc := (hb.cell (p := ⟨w.heap.size + 1 + 1, 0, none⟩) (by first | (show _ < _; omega) | (simp <;> omega))).trans hsc
    have hsf := (hb.frozen (p := ⟨w.heap.size + 1 + 1, 0, none⟩) (by first | (show _ < _; omega) | (simp <;> omega))).trans hsf
    obtain ⟨hc, hf, hz⟩ := bcellk (B := w.heap.size + 1 + 1 + 1) hb (by first | omega | (simp <;> omega))
    clear hb
    go_wp2_with fail
    refine (need_any (w.heap.size + 1 + 1) false (all4 realB a) w1 (by omega) hsc hsf).mono ?_
    rintro e w2 ho
    obtain ⟨rfl, hs⟩ := ho.fn
    have HR := Lib.hid (HR.out.sm hs (by first | omega | (simp <;> omega)) (by omega))
    have HX := Lib.hid (HX.out.sm hs (by first | omega | (simp <;> omega)) (by omega))
    have HB := Lib.hid (show Below w.heap.size w w2 from hs.own HB.out (by omega))
    have hsc := hs.cell
    have hsf := hs.free
    have hz : w.heap.size + 1 + 1 + 1 ≤ w2.heap.size := Nat.le_trans (by first | omega | (simp <;> omega)) hs.size
    clear ho hs hc hf
    have x0 : w2.cell? ⟨w.heap.size, 3, none⟩ = some (.int .i64 a.b.re) := (HX.out 1 (by omega)).1
    have x1 : w2.cell? ⟨w.heap.size, 4, none⟩ = some (.int .i64 a.b.im) := (HX.out 1 (by omega)).2.1
    have x2 : w2.cell? ⟨w.heap.size, 5, none⟩ = some (.int .i64 a.b.den) := (HX.out 1 (by omega)).2.2
    go_wp2_with fail
    refine (stimes_any (w.heap.size + 1 + 1) _ a.b a.b w2 (by omega) hsc hsf).mono ?_
    rintro e w3 ho
    obtain ⟨rfl, hs⟩ := ho.fn
    have HR := Lib.hid (HR.out.sm hs (by first | omega | (simp <;> omega)) (by omega))
    have HX := Lib.hid (HX.out.sm hs (by first | omega | (simp <;> omega)) (by omega))
    have HB := Lib.hid (show Below w.heap.size w w3 from hs.own HB.out (by omega))
    have hsc := hs.cell
    have hsf := hs.free
    have hz3 : w.heap.size + 1 + 1 + 1 ≤ w3.heap.size := Nat.le_trans hz hs.size
    clear ho hs x0 x1 x2 hz
    obtain ⟨W, hW⟩ : ∃ W, W = w3.alloc (.cells #[.int .i64 (fTimes a.b a.b).1.re, .int .i64 (fTimes a.b a.b).1.im, .int .i64 (fTimes a.b a.b).1.den] 23) := ⟨_, rfl⟩
    have HX : Hid (BoxAt W (w.heap.size) a.get 4) := by rw [hW]; exact HX.out.alloc (by omega) _
    have HR : Hid (Room W (w.heap.size + 1) 1) := by rw [hW]; exact HR.out.alloc (by omega) _
    have HB : Hid (Below w.heap.size w W) := by rw [hW]; exact HB.out.alloc (by omega) _
    have HC : Hid (Room W w3.heap.size 1) := by rw [hW]; exact Room.new' rfl rfl
    have HA : Hid (BoxAt W w3.heap.size (fun _ => (fTimes a.b a.b).1) 1) := by rw [hW]; exact BoxAt.new _ _ _ _ _ (src1 (fTimes a.b a.b).1)
    have hsc : W.cell? ⟨w.heap.size + 1 + 1, 0, none⟩ = some (.bool ((false || !all4 realB a) || !(fTimes a.b a.b).2)) := by rw [hW]; exact (World.cell?_alloc_old w3 (.cells #[.int .i64 (fTimes a.b a.b).1.re, .int .i64 (fTimes a.b a.b).1.im, .int .i64 (fTimes a.b a.b).1.den] 23) ⟨w.heap.size + 1 + 1, 0, none⟩ (show w.heap.size + 1 + 1 ≠ w3.heap.size by omega)).trans hsc
    have hsf : W.frozen? ⟨w.heap.size + 1 + 1, 0, none⟩ = false := by rw [hW]; exact (World.frozen?_alloc_old w3 (.cells #[.int .i64 (fTimes a.b a.b).1.re, .int .i64 (fTimes a.b a.b).1.im, .int .i64 (fTimes a.b a.b).1.den] 23) ⟨w.heap.size + 1 + 1, 0, none⟩ (show w.heap.size + 1 + 1 ≠ w3.heap.size by omega)).trans hsf
    have hzW : w3.heap.size + 1 ≤ W.heap.size := by rw [hW]; simp
    go_wp2
    rw [← hW]
    clear hW
    go_cut [] (fun wx => Below w.heap.size w wx ∧ w3.heap.size + 1 ≤ wx.heap.size ∧ BoxAt wx (w.heap.size) a.get 4 ∧ Room wx (w.heap.size + 1) 1 ∧ Room wx w3.heap.size 1 ∧ BoxAt wx w3.heap.size (fun _ => (fAdd (fTimes a.b a.b).1 (fTimes a.c a.c).1).1) 1 ∧ wx.cell? ⟨w.heap.size + 1 + 1, 0, none⟩ = some (.bool ((((false || !all4 realB a) || !(fTimes a.b a.b).2) || !(fTimes a.c a.c).2) || !(fAdd (fTimes a.b a.b).1 (fTimes a.c a.c).1).2)) ∧ wx.frozen? ⟨w.heap.size + 1 + 1, 0, none⟩ = false)
    case first =>
      have hsc : W.drew.cell? ⟨w.heap.size + 1 + 1, 0, none⟩ = _ := hsc
      have hsf : W.drew.frozen? ⟨w.heap.size + 1 + 1, 0, none⟩ = false := hsf
      have HX : Hid (BoxAt W.drew (w.heap.size) a.get 4) := HX.out
      have HR : Hid (Room W.drew (w.heap.size + 1) 1) := HR.out
      have HC : Hid (Room W.drew w3.heap.size 1) := HC.out
      have HA : Hid (BoxAt W.drew w3.heap.size (fun _ => (fTimes a.b a.b).1) 1) := HA.out
      have HB : Hid (Below w.heap.size w W.drew) := HB.out.drew
      have b0 : W.drew.cell? ⟨w.heap.size, 6, none⟩ = some (.int .i64 a.c.re) := (HX.out 2 (by omega)).1
      have b1 : W.drew.cell? ⟨w.heap.size, 7, none⟩ = some (.int .i64 a.c.im) := (HX.out 2 (by omega)).2.1
      have b2 : W.drew.cell? ⟨w.heap.size, 8, none⟩ = some (.int .i64 a.c.den) := (HX.out 2 (by omega)).2.2
      have ac0 : W.drew.cell? ⟨w3.heap.size, 0, none⟩ = some (.int .i64 (fTimes a.b a.b).1.re) := (HA.out 0 (by omega)).1
      have ac1 : W.drew.cell? ⟨w3.heap.size, 1, none⟩ = some (.int .i64 (fTimes a.b a.b).1.im) := (HA.out 0 (by omega)).2.1
      have ac2 : W.drew.cell? ⟨w3.heap.size, 2, none⟩ = some (.int .i64 (fTimes a.b a.b).1.den) := (HA.out 0 (by omega)).2.2
      go_region_law (first | (go_simp; go_at_call 77; (with_reducible refine (sadd_any (w.heap.size + 1 + 1) _ (fTimes a.b a.b).1 (fTimes a.c a.c).1 _ (by first | omega | (simp <;> omega)) hsc hsf).mono ?_); rintro e w5 ho; obtain ⟨rfl, hs⟩ := ho.fn; have r0 : w5.cell? ⟨w.heap.size, 6, none⟩ = some (.int .i64 a.c.re) := (hs.atc (w.heap.size) (by first | omega | (simp <;> omega)) (by omega) 6).trans q0; have r1 : w5.cell? ⟨w.heap.size, 7, none⟩ = some (.int .i64 a.c.im) := (hs.atc (w.heap.size) (by first | omega | (simp <;> omega)) (by omega) 7).trans q1; have r2 : w5.cell? ⟨w.heap.size, 8, none⟩ = some (.int .i64 a.c.den) := (hs.atc (w.heap.size) (by first | omega | (simp <;> omega)) (by omega) 8).trans q2; have HR := Lib.hid (HR.out.sm hs (by first | omega | (simp <;> omega)) (by omega)); have HX := Lib.hid (HX.out.sm hs (by first | omega | (simp <;> omega)) (by omega)); have HB := Lib.hid (show Below w.heap.size w w5 from hs.own HB.out (by omega)); have hsc := hs.cell; have hsf := hs.free; have HC := Lib.hid (HC.out.sm hs (by first | omega | (simp <;> omega)) (by omega)); have hzw5 : w3.heap.size + 1 ≤ w5.heap.size := Nat.le_trans (by first | omega | (simp <;> omega)) hs.size; have s0 := fun u v x => (far3 (i := 0) (j := 1) (k := 2) (u := u) (v := v) (x := x) (show w3.heap.size ≠ w.heap.size by omega)).trans r0; have s1 := fun u v x => (far3 (i := 0) (j := 1) (k := 2) (u := u) (v := v) (x := x) (show w3.heap.size ≠ w.heap.size by omega)).trans r1; have s2 := fun u v x => (far3 (i := 0) (j := 1) (k := 2) (u := u) (v := v) (x := x) (show w3.heap.size ≠ w.heap.size by omega)).trans r2; obtain ⟨y0, e0⟩ := Option.isSome_iff_exists.1 (HC.out 0 (by omega)).1; have f0 := (HC.out 0 (by omega)).2; obtain ⟨y1, e1⟩ := Option.isSome_iff_exists.1 (HC.out 1 (by omega)).1; have f1 := (HC.out 1 (by omega)).2; obtain ⟨y2, e2⟩ := Option.isSome_iff_exists.1 (HC.out 2 (by omega)).1; have f2 := (HC.out 2 (by omega)).2; clear ho hs) | (go_simp; go_at_call 80; (with_reducible refine (stimes_any (w.heap.size + 1 + 1) _ a.c a.c _ (by first | omega | (simp <;> omega)) hsc hsf).mono ?_); rintro e w4 ho; obtain ⟨rfl, hs⟩ := ho.fn; have q0 : w4.cell? ⟨w.heap.size, 6, none⟩ = some (.int .i64 a.c.re) := (hs.atc (w.heap.size) (by first | omega | (simp <;> omega)) (by omega) 6).trans b0; have q1 : w4.cell? ⟨w.heap.size, 7, none⟩ = some (.int .i64 a.c.im) := (hs.atc (w.heap.size) (by first | omega | (simp <;> omega)) (by omega) 7).trans b1; have q2 : w4.cell? ⟨w.heap.size, 8, none⟩ = some (.int .i64 a.c.den) := (hs.atc (w.heap.size) (by first | omega | (simp <;> omega)) (by omega) 8).trans b2; have HR := Lib.hid (HR.out.sm hs (by first | omega | (simp <;> omega)) (by omega)); have HX := Lib.hid (HX.out.sm hs (by first | omega | (simp <;> omega)) (by omega)); have HB := Lib.hid (show Below w.heap.size w w4 from hs.own HB.out (by omega)); have hsc := hs.cell; have hsf := hs.free; have HC := Lib.hid (HC.out.sm hs (by first | omega | (simp <;> omega)) (by omega)); have hzw4 : w3.heap.size + 1 ≤ w4.heap.size := Nat.le_trans (by first | omega | (simp <;> omega)) hs.size; have HA := Lib.hid (HA.out.sm hs (by first | omega | (simp <;> omega)) (by omega)); have ad0 : w4.cell? ⟨w3.heap.size, 0, none⟩ = some (.int .i64 (fTimes a.b a.b).1.re) := (HA.out 0 (by omega)).1; have ad1 : w4.cell? ⟨w3.heap.size, 1, none⟩ = some (.int .i64 (fTimes a.b a.b).1.im) := (HA.out 0 (by omega)).2.1; have ad2 : w4.cell? ⟨w3.heap.size, 2, none⟩ = some (.int .i64 (fTimes a.b a.b).1.den) := (HA.out 0 (by omega)).2.2; clear ho hs))
      all_goals (go_wp2_with fail; go_meet)
      all_goals (exact ⟨((HB.out.setCell (by show _ ≤ w3.heap.size; omega) _).setCell (by show _ ≤ w3.heap.size; omega) _).setCell (by show _ ≤ w3.heap.size; omega) _, (by simp; omega), HX.out.put_other (M := w3.heap.size) (by omega) 0 (fAdd (fTimes a.b a.b).1 (fTimes a.c a.c).1).1, HR.out.put w3.heap.size 0 (fAdd (fTimes a.b a.b).1 (fTimes a.c a.c).1).1, HC.out.put w3.heap.size 0 (fAdd (fTimes a.b a.b).1 (fTimes a.c a.c).1).1, BoxAt.put (g := fun _ => (fAdd (fTimes a.b a.b).1 (fTimes a.c a.c).1).1) (k := 0) (fun k hk => absurd hk (by omega)) HC.out (by omega), (far3 (show w3.heap.size ≠ w.heap.size + 1 + 1 by omega)).trans hsc, (by rw [World.frozen?_setCell, World.frozen?_setCell, World.frozen?_setCell]; exact hsf)⟩)
    case rest =>
    clear HX HR HB HC HA hsc hsf
    obtain ⟨hB, hzV, hX, hR, hC, hA, hsc, hsf⟩ := hcut
    have HX := Lib.hid hX
    have HR := Lib.hid hR
    have HB := Lib.hid hB
    have HC := Lib.hid hC
    have HA := Lib.hid hA
    clear hX hR hB hC hA
    go_wp2
    go_cut [] (fun wx => Below w.heap.size w wx ∧ w3.heap.size + 1 ≤ wx.heap.size ∧ BoxAt wx (w.heap.size) a.get 4 ∧ Room wx (w.heap.size + 1) 1 ∧ Room wx w3.heap.size 1 ∧ BoxAt wx w3.heap.size (fun _ => (fAdd (fAdd (fTimes a.b a.b).1 (fTimes a.c a.c).1).1 (fTimes a.d a.d).1).1) 1 ∧ wx.cell? ⟨w.heap.size + 1 + 1, 0, none⟩ = some (.bool ((((((false || !all4 realB a) || !(fTimes a.b a.b).2) || !(fTimes a.c a.c).2) || !(fAdd (fTimes a.b a.b).1 (fTimes a.c a.c).1).2) || !(fTimes a.d a.d).2) || !(fAdd (fAdd (fTimes a.b a.b).1 (fTimes a.c a.c).1).1 (fTimes a.d a.d).1).2)) ∧ wx.frozen? ⟨w.heap.size + 1 + 1, 0, none⟩ = false)
    case first =>
      have hsc : wc.drew.cell? ⟨w.heap.size + 1 + 1, 0, none⟩ = _ := hsc
      have hsf : wc.drew.frozen? ⟨w.heap.size + 1 + 1, 0, none⟩ = false := hsf
      have HX : Hid (BoxAt wc.drew (w.heap.size) a.get 4) := HX.out
      have HR : Hid (Room wc.drew (w.heap.size + 1) 1) := HR.out
      have HC : Hid (Room wc.drew w3.heap.size 1) := HC.out
      have HA : Hid (BoxAt wc.drew w3.heap.size (fun _ => (fAdd (fTimes a.b a.b).1 (fTimes a.c a.c).1).1) 1) := HA.out
      have HB : Hid (Below w.heap.size w wc.drew) := HB.out.drew
      have b0 : wc.drew.cell? ⟨w.heap.size, 9, none⟩ = some (.int .i64 a.d.re) := (HX.out 3 (by omega)).1
      have b1 : wc.drew.cell? ⟨w.heap.size, 10, none⟩ = some (.int .i64 a.d.im) := (HX.out 3 (by omega)).2.1
      have b2 : wc.drew.cell? ⟨w.heap.size, 11, none⟩ = some (.int .i64 a.d.den) := (HX.out 3 (by omega)).2.2
      have ac0 : wc.drew.cell? ⟨w3.heap.size, 0, none⟩ = some (.int .i64 (fAdd (fTimes a.b a.b).1 (fTimes a.c a.c).1).1.re) := (HA.out 0 (by omega)).1
      have ac1 : wc.drew.cell? ⟨w3.heap.size, 1, none⟩ = some (.int .i64 (fAdd (fTimes a.b a.b).1 (fTimes a.c a.c).1).1.im) := (HA.out 0 (by omega)).2.1
      have ac2 : wc.drew.cell? ⟨w3.heap.size, 2, none⟩ = some (.int .i64 (fAdd (fTimes a.b a.b).1 (fTimes a.c a.c).1).1.den) := (HA.out 0 (by omega)).2.2
      go_region_law (first | (go_simp; go_at_call 77; (with_reducible refine (sadd_any (w.heap.size + 1 + 1) _ (fAdd (fTimes a.b a.b).1 (fTimes a.c a.c).1).1 (fTimes a.d a.d).1 _ (by first | omega | (simp <;> omega)) hsc hsf).mono ?_); rintro e w7 ho; obtain ⟨rfl, hs⟩ := ho.fn; have r0 : w7.cell? ⟨w.heap.size, 9, none⟩ = some (.int .i64 a.d.re) := (hs.atc (w.heap.size) (by first | omega | (simp <;> omega)) (by omega) 9).trans q0; have r1 : w7.cell? ⟨w.heap.size, 10, none⟩ = some (.int .i64 a.d.im) := (hs.atc (w.heap.size) (by first | omega | (simp <;> omega)) (by omega) 10).trans q1; have r2 : w7.cell? ⟨w.heap.size, 11, none⟩ = some (.int .i64 a.d.den) := (hs.atc (w.heap.size) (by first | omega | (simp <;> omega)) (by omega) 11).trans q2; have HR := Lib.hid (HR.out.sm hs (by first | omega | (simp <;> omega)) (by omega)); have HX := Lib.hid (HX.out.sm hs (by first | omega | (simp <;> omega)) (by omega)); have HB := Lib.hid (show Below w.heap.size w w7 from hs.own HB.out (by omega)); have hsc := hs.cell; have hsf := hs.free; have HC := Lib.hid (HC.out.sm hs (by first | omega | (simp <;> omega)) (by omega)); have hzw7 : w3.heap.size + 1 ≤ w7.heap.size := Nat.le_trans (by first | omega | (simp <;> omega)) hs.size; have s0 := fun u v x => (far3 (i := 0) (j := 1) (k := 2) (u := u) (v := v) (x := x) (show w3.heap.size ≠ w.heap.size by omega)).trans r0; have s1 := fun u v x => (far3 (i := 0) (j := 1) (k := 2) (u := u) (v := v) (x := x) (show w3.heap.size ≠ w.heap.size by omega)).trans r1; have s2 := fun u v x => (far3 (i := 0) (j := 1) (k := 2) (u := u) (v := v) (x := x) (show w3.heap.size ≠ w.heap.size by omega)).trans r2; obtain ⟨y0, e0⟩ := Option.isSome_iff_exists.1 (HC.out 0 (by omega)).1; have f0 := (HC.out 0 (by omega)).2; obtain ⟨y1, e1⟩ := Option.isSome_iff_exists.1 (HC.out 1 (by omega)).1; have f1 := (HC.out 1 (by omega)).2; obtain ⟨y2, e2⟩ := Option.isSome_iff_exists.1 (HC.out 2 (by omega)).1; have f2 := (HC.out 2 (by omega)).2; clear ho hs) | (go_simp; go_at_call 80; (with_reducible refine (stimes_any (w.heap.size + 1 + 1) _ a.d a.d _ (by first | omega | (simp <;> omega)) hsc hsf).mono ?_); rintro e w6 ho; obtain ⟨rfl, hs⟩ := ho.fn; have q0 : w6.cell? ⟨w.heap.size, 9, none⟩ = some (.int .i64 a.d.re) := (hs.atc (w.heap.size) (by first | omega | (simp <;> omega)) (by omega) 9).trans b0; have q1 : w6.cell? ⟨w.heap.size, 10, none⟩ = some (.int .i64 a.d.im) := (hs.atc (w.heap.size) (by first | omega | (simp <;> omega)) (by omega) 10).trans b1; have q2 : w6.cell? ⟨w.heap.size, 11, none⟩ = some (.int .i64 a.d.den) := (hs.atc (w.heap.size) (by first | omega | (simp <;> omega)) (by omega) 11).trans b2; have HR := Lib.hid (HR.out.sm hs (by first | omega | (simp <;> omega)) (by omega)); have HX := Lib.hid (HX.out.sm hs (by first | omega | (simp <;> omega)) (by omega)); have HB := Lib.hid (show Below w.heap.size w w6 from hs.own HB.out (by omega)); have hsc := hs.cell; have hsf := hs.free; have HC := Lib.hid (HC.out.sm hs (by first | omega | (simp <;> omega)) (by omega)); have hzw6 : w3.heap.size + 1 ≤ w6.heap.size := Nat.le_trans (by first | omega | (simp <;> omega)) hs.size; have HA := Lib.hid (HA.out.sm hs (by first | omega | (simp <;> omega)) (by omega)); have ad0 : w6.cell? ⟨w3.heap.size, 0, none⟩ = some (.int .i64 (fAdd (fTimes a.b a.b).1 (fTimes a.c a.c).1).1.re) := (HA.out 0 (by omega)).1; have ad1 : w6.cell? ⟨w3.heap.size, 1, none⟩ = some (.int .i64 (fAdd (fTimes a.b a.b).1 (fTimes a.c a.c).1).1.im) := (HA.out 0 (by omega)).2.1; have ad2 : w6.cell? ⟨w3.heap.size, 2, none⟩ = some (.int .i64 (fAdd (fTimes a.b a.b).1 (fTimes a.c a.c).1).1.den) := (HA.out 0 (by omega)).2.2; clear ho hs))
      all_goals (go_wp2_with fail; go_meet)
      all_goals (exact ⟨((HB.out.setCell (by show _ ≤ w3.heap.size; omega) _).setCell (by show _ ≤ w3.heap.size; omega) _).setCell (by show _ ≤ w3.heap.size; omega) _, (by simp; omega), HX.out.put_other (M := w3.heap.size) (by omega) 0 (fAdd (fAdd (fTimes a.b a.b).1 (fTimes a.c a.c).1).1 (fTimes a.d a.d).1).1, HR.out.put w3.heap.size 0 (fAdd (fAdd (fTimes a.b a.b).1 (fTimes a.c a.c).1).1 (fTimes a.d a.d).1).1, HC.out.put w3.heap.size 0 (fAdd (fAdd (fTimes a.b a.b).1 (fTimes a.c a.c).1).1 (fTimes a.d a.d).1).1, BoxAt.put (g := fun _ => (fAdd (fAdd (fTimes a.b a.b).1 (fTimes a.c a.c).1).1 (fTimes a.d a.d).1).1) (k := 0) (fun k hk => absurd hk (by omega)) HC.out (by omega), (far3 (show w3.heap.size ≠ w.heap.size + 1 + 1 by omega)).trans hsc, (by rw [World.frozen?_setCell, World.frozen?_setCell, World.frozen?_setCell]; exact hsf)⟩)
    case rest =>
    clear HX HR HB HC HA hsc hsf
    obtain ⟨hB, hzV, hX, hR, hC, hA, hsc, hsf⟩ := hcut
    have HX := Lib.hid hX
    have HR := Lib.hid hR
    have HB := Lib.hid hB
    have HC := Lib.hid hC
    have HA := Lib.hid hA
    clear hX hR hB hC hA
    have z0 : wc.cell? ⟨w3.heap.size, 0, none⟩ = some (.int .i64 (fAdd (fAdd (fTimes a.b a.b).1 (fTimes a.c a.c).1).1 (fTimes a.d a.d).1).1.re) := (HA.out 0 (by omega)).1
    have z1 : wc.cell? ⟨w3.heap.size, 1, none⟩ = some (.int .i64 (fAdd (fAdd (fTimes a.b a.b).1 (fTimes a.c a.c).1).1 (fTimes a.d a.d).1).1.im) := (HA.out 0 (by omega)).2.1
    have z2 : wc.cell? ⟨w3.heap.size, 2, none⟩ = some (.int .i64 (fAdd (fAdd (fTimes a.b a.b).1 (fTimes a.c a.c).1).1 (fTimes a.d a.d).1).1.den) := (HA.out 0 (by omega)).2.2
    go_wp2_with (go_at_call 88; (with_reducible refine (gotFrac_yes (w.heap.size + 1 + 1) (fAdd (fAdd (fTimes a.b a.b).1 (fTimes a.c a.c).1).1 (fTimes a.d a.d).1).1 _ (by omega) (hsc.trans (congrArg (fun x => some (Value.bool x)) HE.out))).mono ?_); rintro e w8 ⟨rfl, hb⟩; have HR := Lib.hid (HR.out.below hb (by omega)); have HB := Lib.hid (show Below w.heap.size w w8 from HB.out.trans (hb.mono HB.out.size)); obtain ⟨y0, e0⟩ := Option.isSome_iff_exists.1 (HR.out 0 (by omega)).1; obtain ⟨y1, e1⟩ := Option.isSome_iff_exists.1 (HR.out 1 (by omega)).1; obtain ⟨y2, e2⟩ := Option.isSome_iff_exists.1 (HR.out 2 (by omega)).1; have f0 := (HR.out 0 (by omega)).2; have f1 := (HR.out 1 (by omega)).2; have f2 := (HR.out 2 (by omega)).2; clear hb z0 z1 z2)
    refine bodyPost_ret (v := .tuple #[.agg #[.int .i64 (fAdd (fAdd (fTimes a.b a.b).1 (fTimes a.c a.c).1).1 (fTimes a.d a.d).1).1.re, .int .i64 (fAdd (fAdd (fTimes a.b a.b).1 (fTimes a.c a.c).1).1 (fTimes a.d a.d).1).1.im, .int .i64 (fAdd (fAdd (fTimes a.b a.b).1 (fTimes a.c a.c).1).1 (fTimes a.d a.d).1).1.den], .bool true]) (by simp [results, Tryd.results129, go_sem, e0, e1, e2]) rfl ?_
    exact FrOut.yes (f := (fAdd (fAdd (fTimes a.b a.b).1 (fTimes a.c a.c).1).1 (fTimes a.d a.d).1).1) HG.out HV.out (by (repeat' first | (with_reducible exact HB.out) | with_reducible refine setCells_below _ _ _ ?_ (by first | omega | (simp <;> omega)) | with_reducible refine Below.setCell ?_ (by show _ ≤ _; first | omega | (simp <;> omega) | simp) _ | with_reducible refine Below.alloc ?_ (by first | omega | (simp <;> omega)) _ | with_reducible apply Below.drew))
end Go.Proofs.YtmcokdiopcpifaaDoor
