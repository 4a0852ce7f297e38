/- Contracts: inner products and multiples of vectors, the program's side. -/
import Derived.Test.YtmcokdiopcpifaaDoorPjJ2
set_option maxRecDepth 100000
namespace Go.Proofs.YtmcokdiopcpifaaDoor
open Go.RowKit Pol
theorem ijv_b {a : J2} {b : Bool} (h : jv a = b) (w : World) : Calls Tryd.prog 40 #[.agg #[.int .i64 a.x.re, .int .i64 a.x.im, .int .i64 a.x.den, .int .i64 a.y.re, .int .i64 a.y.im, .int .i64 a.y.den]] w fun e w' => e = .returned (.bool b) ∧ Below w.heap.size w w' := h ▸ ijv_any a w
set_option maxRecDepth 100000 in
set_option maxHeartbeats 8000000 in
theorem ijtimF_no (a : J2) (c : Fr) (hA : jv a = false) (hg : (jTimI a c).2 = false) (w : World) :
    Calls Tryd.prog 29 #[.agg #[.int .i64 a.x.re, .int .i64 a.x.im, .int .i64 a.x.den, .int .i64 a.y.re, .int .i64 a.y.im, .int .i64 a.y.den], .agg #[.int .i64 c.re, .int .i64 c.im, .int .i64 c.den]] w (J2Out (jTimI a c) w) := by
  have HE := Lib.hid ((ends (gt_end _ _ _).1).1 hg)
  have hE := HE.out
  clear HE
  (try unfold eJin at hE)
  rw [hA] at hE
  simp only [Bool.false_and] at hE
  have HE := Lib.hid hE
  clear hE
  have HG := Lib.hid hg; clear hg
  have nn0 : ¬ w.heap.size + 1 + 1 = w.heap.size := by omega
  have nm0 : ¬ w.heap.size = w.heap.size + 1 + 1 := by omega
  have nn1 : ¬ w.heap.size + 1 + 1 = w.heap.size + 1 := by omega
  have nm1 : ¬ w.heap.size + 1 = w.heap.size + 1 + 1 := by omega
  have HB : Hid (Below w.heap.size w ((((w.alloc (.cells #[.int .i64 a.x.re, .int .i64 a.x.im, .int .i64 a.x.den, .int .i64 a.y.re, .int .i64 a.y.im, .int .i64 a.y.den] 47)).alloc (.cells #[.int .i64 c.re, .int .i64 c.im, .int .i64 c.den] 23)).alloc (.cells #[.int .i64 0, .int .i64 0, .int .i64 0, .int .i64 0, .int .i64 0, .int .i64 0] 47)).alloc (.cells #[.bool false] 102))) := by
    show Below _ _ _
    (repeat' first | exact Below.refl _ _ | apply bl_alloc | apply bl_drewN | apply bl_drew | refine bl_trans ?_ (by assumption) | refine bl_set ?_ (by first | omega | (simp <;> omega)) _)
  have HR : Hid (Room ((((w.alloc (.cells #[.int .i64 a.x.re, .int .i64 a.x.im, .int .i64 a.x.den, .int .i64 a.y.re, .int .i64 a.y.im, .int .i64 a.y.den] 47)).alloc (.cells #[.int .i64 c.re, .int .i64 c.im, .int .i64 c.den] 23)).alloc (.cells #[.int .i64 0, .int .i64 0, .int .i64 0, .int .i64 0, .int .i64 0, .int .i64 0] 47)).alloc (.cells #[.bool false] 102)) (w.heap.size + 1 + 1) 2) := by
    show Room _ _ _
    exact (Room.new' (by simp) rfl).alloc (by simp) _
  have hsc : ((((w.alloc (.cells #[.int .i64 a.x.re, .int .i64 a.x.im, .int .i64 a.x.den, .int .i64 a.y.re, .int .i64 a.y.im, .int .i64 a.y.den] 47)).alloc (.cells #[.int .i64 c.re, .int .i64 c.im, .int .i64 c.den] 23)).alloc (.cells #[.int .i64 0, .int .i64 0, .int .i64 0, .int .i64 0, .int .i64 0, .int .i64 0] 47)).alloc (.cells #[.bool false] 102)).cell? ⟨w.heap.size + 1 + 1 + 1, 0, none⟩ = some (.bool false) := by simp [go_sem]
  have hsf : ((((w.alloc (.cells #[.int .i64 a.x.re, .int .i64 a.x.im, .int .i64 a.x.den, .int .i64 a.y.re, .int .i64 a.y.im, .int .i64 a.y.den] 47)).alloc (.cells #[.int .i64 c.re, .int .i64 c.im, .int .i64 c.den] 23)).alloc (.cells #[.int .i64 0, .int .i64 0, .int .i64 0, .int .i64 0, .int .i64 0, .int .i64 0] 47)).alloc (.cells #[.bool false] 102)).frozen? ⟨w.heap.size + 1 + 1 + 1, 0, none⟩ = false := by simp [go_sem]
  go_enter Tryd.func29, Tryd.ntmps29
  go_wp2_with fail
  refine (ijv_b hA  _).mono ?_
  rintro e w1 ⟨rfl, hb⟩
  have HR := Lib.hid (HR.out.below hb (by first | omega | (simp <;> omega)))
  have HB := Lib.hid (show Below w.heap.size w w1 from HB.out.trans (hb.mono HB.out.size))
  have hsc := (hb.cell (p := ⟨w.heap.size + 1 + 1 + 1, 0, none⟩) (by first | (show _ < _; omega) | (simp <;> omega))).trans hsc
  have hsf := (hb.frozen (p := ⟨w.heap.size + 1 + 1 + 1, 0, none⟩) (by first | (show _ < _; omega) | (simp <;> omega))).trans hsf
  obtain ⟨hc, hf, hz⟩ := bcellk (B := w.heap.size + 1 + 1 + 1 + 1) hb (by first | omega | (simp <;> omega))
  clear hb
  go_wp2_with fail
  refine (need_any (w.heap.size + 1 + 1 + 1) false (false) w1 (by omega) hsc hsf).mono ?_
  rintro e w2 ho
  obtain ⟨rfl, hs⟩ := ho.fn
  have HR := Lib.hid (HR.out.sm hs (by first | omega | (simp <;> omega)) (by omega))
  have HB := Lib.hid (show Below w.heap.size w _ from hs.own HB.out (by omega))
  have hc0 := hs.atc (w.heap.size) (by first | omega | (simp <;> omega)) (by omega)
  have hc1 := hs.atc (w.heap.size + 1) (by first | omega | (simp <;> omega)) (by omega)
  have hcr := hs.atc (w.heap.size + 1 + 1) (by first | omega | (simp <;> omega)) (by omega)
  have hfr := hs.atf (w.heap.size + 1 + 1) (by first | omega | (simp <;> omega)) (by omega)
  have hz : w.heap.size + 1 + 1 + 1 + 1 ≤ _ := Nat.le_trans (by first | omega | (simp <;> omega)) hs.size
  have hsc := hs.cell
  have hsf := hs.free
  clear ho hs
  go_wp2
  have hsc : w2.drew.cell? ⟨w.heap.size + 1 + 1 + 1, 0, none⟩ = _ := hsc
  have hsf : w2.drew.frozen? ⟨w.heap.size + 1 + 1 + 1, 0, none⟩ = _ := hsf
  have HB : Hid (Below w.heap.size w w2.drew) := HB.out.drew
  have HR : Hid (Room w2.drew (w.heap.size + 1 + 1) 2) := HR.out
  go_region_held3 (fun w' => w'.cell? ⟨w.heap.size, 0, none⟩ = some (.int .i64 a.x.re) ∧ w'.cell? ⟨w.heap.size, 1, none⟩ = some (.int .i64 a.x.im) ∧ w'.cell? ⟨w.heap.size, 2, none⟩ = some (.int .i64 a.x.den) ∧ w'.cell? ⟨w.heap.size, 3, none⟩ = some (.int .i64 a.y.re) ∧ w'.cell? ⟨w.heap.size, 4, none⟩ = some (.int .i64 a.y.im) ∧ w'.cell? ⟨w.heap.size, 5, none⟩ = some (.int .i64 a.y.den) ∧ w'.cell? ⟨w.heap.size + 1, 0, none⟩ = some (.int .i64 c.re) ∧ w'.cell? ⟨w.heap.size + 1, 1, none⟩ = some (.int .i64 c.im) ∧ w'.cell? ⟨w.heap.size + 1, 2, none⟩ = some (.int .i64 c.den))
    (first | go_keep | (simp [*]; done))
    (first
      | (go_at_call 80; (with_reducible refine (stimes_any _ _ _ _ _ (by first | omega | (simp <;> omega)) hsc hsf).mono ?_); rintro e w3 ho; obtain ⟨rfl, hs⟩ := ho.fn; have HR := Lib.hid (HR.out.sm hs (by first | omega | (simp <;> omega)) (by omega)); have HB := Lib.hid (show Below w.heap.size w _ from hs.own HB.out (by omega)); have hc0 := hs.atc (w.heap.size) (by first | omega | (simp <;> omega)) (by omega); have hc1 := hs.atc (w.heap.size + 1) (by first | omega | (simp <;> omega)) (by omega); have hcr := hs.atc (w.heap.size + 1 + 1) (by first | omega | (simp <;> omega)) (by omega); have hfr := hs.atf (w.heap.size + 1 + 1) (by first | omega | (simp <;> omega)) (by omega); have hz : w.heap.size + 1 + 1 + 1 + 1 ≤ _ := Nat.le_trans (by first | omega | (simp <;> omega)) hs.size; have hsc := hs.cell; have hsf := hs.free; clear ho hs)
      | (go_at_call 78; (with_reducible refine (gotJones_no (w.heap.size + 1 + 1 + 1) ⟨(fTimes a.x c).1, (fTimes a.y c).1⟩ _ (by omega) (hsc.trans (congrArg (fun x => some (Value.bool x)) HE.out))).mono ?_); rintro e w4 ⟨rfl, hb⟩; have HR := Lib.hid (HR.out.below hb (by omega)); have HB := Lib.hid (show Below w.heap.size w w4 from HB.out.trans (hb.mono HB.out.size)); have hc0 := fun o => hb.cell (p := ⟨w.heap.size, o, none⟩) (by show w.heap.size < _; omega); have hc1 := fun o => hb.cell (p := ⟨w.heap.size + 1, o, none⟩) (by show w.heap.size + 1 < _; omega); have hcr := fun o => hb.cell (p := ⟨w.heap.size + 1 + 1, o, none⟩) (by show w.heap.size + 1 + 1 < _; omega); have hfr := fun o => hb.frozen (p := ⟨w.heap.size + 1 + 1, o, none⟩) (by show w.heap.size + 1 + 1 < _; omega); clear hb))
  go_wp2
  refine bodyPost_ret (v := .tuple #[.agg #[.int .i64 0, .int .i64 0, .int .i64 0, .int .i64 0, .int .i64 0, .int .i64 0], .bool false]) ?_ rfl ?_
  · exact Eq.trans (results_cell_mid2 rfl _ _ (w.heap.size + 1 + 1) [.int .i64 0, .int .i64 0, .int .i64 0, .int .i64 0, .int .i64 0, .int .i64 0] _ (by rfl) (World.rangeAt_setCells_same w4 (w.heap.size + 1 + 1) 0 [.int .i64 0, .int .i64 0, .int .i64 0, .int .i64 0, .int .i64 0, .int .i64 0] HR.out.there) Tryd.underlying47 rfl (by kernel_rfl)) rfl
  · exact J2Out.no (gt_no HG.out) (setCells_below (w.heap.size + 1 + 1) [.int .i64 0, .int .i64 0, .int .i64 0, .int .i64 0, .int .i64 0, .int .i64 0] 0 HB.out (by omega))
set_option maxRecDepth 100000 in
set_option maxHeartbeats 8000000 in
theorem ijtimT_no (a : J2) (c : Fr) (hA : jv a = true) (hg : (jTimI a c).2 = false) (w : World) :
    Calls Tryd.prog 29 #[.agg #[.int .i64 a.x.re, .int .i64 a.x.im, .int .i64 a.x.den, .int .i64 a.y.re, .int .i64 a.y.im, .int .i64 a.y.den], .agg #[.int .i64 c.re, .int .i64 c.im, .int .i64 c.den]] w (J2Out (jTimI a c) w) := by
  have HE := Lib.hid ((ends (gt_end _ _ _).1).1 hg)
  have hE := HE.out
  clear HE
  (try unfold eJin at hE)
  rw [hA] at hE
  simp only [Bool.true_and] at hE
  have HE := Lib.hid hE
  clear hE
  have HG := Lib.hid hg; clear hg
  have nn0 : ¬ w.heap.size + 1 + 1 = w.heap.size := by omega
  have nm0 : ¬ w.heap.size = w.heap.size + 1 + 1 := by omega
  have nn1 : ¬ w.heap.size + 1 + 1 = w.heap.size + 1 := by omega
  have nm1 : ¬ w.heap.size + 1 = w.heap.size + 1 + 1 := by omega
  have HB : Hid (Below w.heap.size w ((((w.alloc (.cells #[.int .i64 a.x.re, .int .i64 a.x.im, .int .i64 a.x.den, .int .i64 a.y.re, .int .i64 a.y.im, .int .i64 a.y.den] 47)).alloc (.cells #[.int .i64 c.re, .int .i64 c.im, .int .i64 c.den] 23)).alloc (.cells #[.int .i64 0, .int .i64 0, .int .i64 0, .int .i64 0, .int .i64 0, .int .i64 0] 47)).alloc (.cells #[.bool false] 102))) := by
    show Below _ _ _
    (repeat' first | exact Below.refl _ _ | apply bl_alloc | apply bl_drewN | apply bl_drew | refine bl_trans ?_ (by assumption) | refine bl_set ?_ (by first | omega | (simp <;> omega)) _)
  have HR : Hid (Room ((((w.alloc (.cells #[.int .i64 a.x.re, .int .i64 a.x.im, .int .i64 a.x.den, .int .i64 a.y.re, .int .i64 a.y.im, .int .i64 a.y.den] 47)).alloc (.cells #[.int .i64 c.re, .int .i64 c.im, .int .i64 c.den] 23)).alloc (.cells #[.int .i64 0, .int .i64 0, .int .i64 0, .int .i64 0, .int .i64 0, .int .i64 0] 47)).alloc (.cells #[.bool false] 102)) (w.heap.size + 1 + 1) 2) := by
    show Room _ _ _
    exact (Room.new' (by simp) rfl).alloc (by simp) _
  have hsc : ((((w.alloc (.cells #[.int .i64 a.x.re, .int .i64 a.x.im, .int .i64 a.x.den, .int .i64 a.y.re, .int .i64 a.y.im, .int .i64 a.y.den] 47)).alloc (.cells #[.int .i64 c.re, .int .i64 c.im, .int .i64 c.den] 23)).alloc (.cells #[.int .i64 0, .int .i64 0, .int .i64 0, .int .i64 0, .int .i64 0, .int .i64 0] 47)).alloc (.cells #[.bool false] 102)).cell? ⟨w.heap.size + 1 + 1 + 1, 0, none⟩ = some (.bool false) := by simp [go_sem]
  have hsf : ((((w.alloc (.cells #[.int .i64 a.x.re, .int .i64 a.x.im, .int .i64 a.x.den, .int .i64 a.y.re, .int .i64 a.y.im, .int .i64 a.y.den] 47)).alloc (.cells #[.int .i64 c.re, .int .i64 c.im, .int .i64 c.den] 23)).alloc (.cells #[.int .i64 0, .int .i64 0, .int .i64 0, .int .i64 0, .int .i64 0, .int .i64 0] 47)).alloc (.cells #[.bool false] 102)).frozen? ⟨w.heap.size + 1 + 1 + 1, 0, none⟩ = false := by simp [go_sem]
  go_enter Tryd.func29, Tryd.ntmps29
  go_wp2_with fail
  refine (ijv_b hA  _).mono ?_
  rintro e w1 ⟨rfl, hb⟩
  have HR := Lib.hid (HR.out.below hb (by first | omega | (simp <;> omega)))
  have HB := Lib.hid (show Below w.heap.size w w1 from HB.out.trans (hb.mono HB.out.size))
  have hsc := (hb.cell (p := ⟨w.heap.size + 1 + 1 + 1, 0, none⟩) (by first | (show _ < _; omega) | (simp <;> omega))).trans hsc
  have hsf := (hb.frozen (p := ⟨w.heap.size + 1 + 1 + 1, 0, none⟩) (by first | (show _ < _; omega) | (simp <;> omega))).trans hsf
  obtain ⟨hc, hf, hz⟩ := bcellk (B := w.heap.size + 1 + 1 + 1 + 1) hb (by first | omega | (simp <;> omega))
  clear hb
  go_wp2_with fail
  refine (valid_fr c  _).mono ?_
  rintro e w1 ⟨rfl, hb⟩
  have HR := Lib.hid (HR.out.below hb (by first | omega | (simp <;> omega)))
  have HB := Lib.hid (show Below w.heap.size w w1 from HB.out.trans (hb.mono HB.out.size))
  have hsc := (hb.cell (p := ⟨w.heap.size + 1 + 1 + 1, 0, none⟩) (by first | (show _ < _; omega) | (simp <;> omega))).trans hsc
  have hsf := (hb.frozen (p := ⟨w.heap.size + 1 + 1 + 1, 0, none⟩) (by first | (show _ < _; omega) | (simp <;> omega))).trans hsf
  obtain ⟨hc, hf, hz⟩ := bcellk (B := w.heap.size + 1 + 1 + 1 + 1) hb (by first | omega | (simp <;> omega))
  clear hb
  go_wp2_with fail
  refine (need_any (w.heap.size + 1 + 1 + 1) false ((vld c)) w1 (by omega) hsc hsf).mono ?_
  rintro e w2 ho
  obtain ⟨rfl, hs⟩ := ho.fn
  have HR := Lib.hid (HR.out.sm hs (by first | omega | (simp <;> omega)) (by omega))
  have HB := Lib.hid (show Below w.heap.size w _ from hs.own HB.out (by omega))
  have hc0 := hs.atc (w.heap.size) (by first | omega | (simp <;> omega)) (by omega)
  have hc1 := hs.atc (w.heap.size + 1) (by first | omega | (simp <;> omega)) (by omega)
  have hcr := hs.atc (w.heap.size + 1 + 1) (by first | omega | (simp <;> omega)) (by omega)
  have hfr := hs.atf (w.heap.size + 1 + 1) (by first | omega | (simp <;> omega)) (by omega)
  have hz : w.heap.size + 1 + 1 + 1 + 1 ≤ _ := Nat.le_trans (by first | omega | (simp <;> omega)) hs.size
  have hsc := hs.cell
  have hsf := hs.free
  clear ho hs
  go_wp2
  have hsc : w2.drew.cell? ⟨w.heap.size + 1 + 1 + 1, 0, none⟩ = _ := hsc
  have hsf : w2.drew.frozen? ⟨w.heap.size + 1 + 1 + 1, 0, none⟩ = _ := hsf
  have HB : Hid (Below w.heap.size w w2.drew) := HB.out.drew
  have HR : Hid (Room w2.drew (w.heap.size + 1 + 1) 2) := HR.out
  go_region_held3 (fun w' => w'.cell? ⟨w.heap.size, 0, none⟩ = some (.int .i64 a.x.re) ∧ w'.cell? ⟨w.heap.size, 1, none⟩ = some (.int .i64 a.x.im) ∧ w'.cell? ⟨w.heap.size, 2, none⟩ = some (.int .i64 a.x.den) ∧ w'.cell? ⟨w.heap.size, 3, none⟩ = some (.int .i64 a.y.re) ∧ w'.cell? ⟨w.heap.size, 4, none⟩ = some (.int .i64 a.y.im) ∧ w'.cell? ⟨w.heap.size, 5, none⟩ = some (.int .i64 a.y.den) ∧ w'.cell? ⟨w.heap.size + 1, 0, none⟩ = some (.int .i64 c.re) ∧ w'.cell? ⟨w.heap.size + 1, 1, none⟩ = some (.int .i64 c.im) ∧ w'.cell? ⟨w.heap.size + 1, 2, none⟩ = some (.int .i64 c.den))
    (first | go_keep | (simp [*]; done))
    (first
      | (go_at_call 80; (with_reducible refine (stimes_any _ _ _ _ _ (by first | omega | (simp <;> omega)) hsc hsf).mono ?_); rintro e w3 ho; obtain ⟨rfl, hs⟩ := ho.fn; have HR := Lib.hid (HR.out.sm hs (by first | omega | (simp <;> omega)) (by omega)); have HB := Lib.hid (show Below w.heap.size w _ from hs.own HB.out (by omega)); have hc0 := hs.atc (w.heap.size) (by first | omega | (simp <;> omega)) (by omega); have hc1 := hs.atc (w.heap.size + 1) (by first | omega | (simp <;> omega)) (by omega); have hcr := hs.atc (w.heap.size + 1 + 1) (by first | omega | (simp <;> omega)) (by omega); have hfr := hs.atf (w.heap.size + 1 + 1) (by first | omega | (simp <;> omega)) (by omega); have hz : w.heap.size + 1 + 1 + 1 + 1 ≤ _ := Nat.le_trans (by first | omega | (simp <;> omega)) hs.size; have hsc := hs.cell; have hsf := hs.free; clear ho hs)
      | (go_at_call 78; (with_reducible refine (gotJones_no (w.heap.size + 1 + 1 + 1) ⟨(fTimes a.x c).1, (fTimes a.y c).1⟩ _ (by omega) (hsc.trans (congrArg (fun x => some (Value.bool x)) HE.out))).mono ?_); rintro e w4 ⟨rfl, hb⟩; have HR := Lib.hid (HR.out.below hb (by omega)); have HB := Lib.hid (show Below w.heap.size w w4 from HB.out.trans (hb.mono HB.out.size)); have hc0 := fun o => hb.cell (p := ⟨w.heap.size, o, none⟩) (by show w.heap.size < _; omega); have hc1 := fun o => hb.cell (p := ⟨w.heap.size + 1, o, none⟩) (by show w.heap.size + 1 < _; omega); have hcr := fun o => hb.cell (p := ⟨w.heap.size + 1 + 1, o, none⟩) (by show w.heap.size + 1 + 1 < _; omega); have hfr := fun o => hb.frozen (p := ⟨w.heap.size + 1 + 1, o, none⟩) (by show w.heap.size + 1 + 1 < _; omega); clear hb))
  go_wp2
  refine bodyPost_ret (v := .tuple #[.agg #[.int .i64 0, .int .i64 0, .int .i64 0, .int .i64 0, .int .i64 0, .int .i64 0], .bool false]) ?_ rfl ?_
  · exact Eq.trans (results_cell_mid2 rfl _ _ (w.heap.size + 1 + 1) [.int .i64 0, .int .i64 0, .int .i64 0, .int .i64 0, .int .i64 0, .int .i64 0] _ (by rfl) (World.rangeAt_setCells_same w4 (w.heap.size + 1 + 1) 0 [.int .i64 0, .int .i64 0, .int .i64 0, .int .i64 0, .int .i64 0, .int .i64 0] HR.out.there) Tryd.underlying47 rfl (by kernel_rfl)) rfl
  · exact J2Out.no (gt_no HG.out) (setCells_below (w.heap.size + 1 + 1) [.int .i64 0, .int .i64 0, .int .i64 0, .int .i64 0, .int .i64 0, .int .i64 0] 0 HB.out (by omega))
set_option maxRecDepth 100000 in
set_option maxHeartbeats 8000000 in
theorem ijtimT_yes (a : J2) (c : Fr) (hA : jv a = true) (hg : (jTimI a c).2 = true) (w : World) :
    Calls Tryd.prog 29 #[.agg #[.int .i64 a.x.re, .int .i64 a.x.im, .int .i64 a.x.den, .int .i64 a.y.re, .int .i64 a.y.im, .int .i64 a.y.den], .agg #[.int .i64 c.re, .int .i64 c.im, .int .i64 c.den]] w (J2Out (jTimI a c) w) := by
  have HE := Lib.hid ((ends (gt_end _ _ _).1).2 hg)
  have hE := HE.out
  clear HE
  (try unfold eJin at hE)
  rw [hA] at hE
  simp only [Bool.true_and] at hE
  have HE := Lib.hid hE
  clear hE
  have HV := Lib.hid ((gt_end _ _ _).2 hg)
  have HG := Lib.hid hg; clear hg
  have nn0 : ¬ w.heap.size + 1 + 1 = w.heap.size := by omega
  have nm0 : ¬ w.heap.size = w.heap.size + 1 + 1 := by omega
  have nn1 : ¬ w.heap.size + 1 + 1 = w.heap.size + 1 := by omega
  have nm1 : ¬ w.heap.size + 1 = w.heap.size + 1 + 1 := by omega
  have HB : Hid (Below w.heap.size w ((((w.alloc (.cells #[.int .i64 a.x.re, .int .i64 a.x.im, .int .i64 a.x.den, .int .i64 a.y.re, .int .i64 a.y.im, .int .i64 a.y.den] 47)).alloc (.cells #[.int .i64 c.re, .int .i64 c.im, .int .i64 c.den] 23)).alloc (.cells #[.int .i64 0, .int .i64 0, .int .i64 0, .int .i64 0, .int .i64 0, .int .i64 0] 47)).alloc (.cells #[.bool false] 102))) := by
    show Below _ _ _
    (repeat' first | exact Below.refl _ _ | apply bl_alloc | apply bl_drewN | apply bl_drew | refine bl_trans ?_ (by assumption) | refine bl_set ?_ (by first | omega | (simp <;> omega)) _)
  have HR : Hid (Room ((((w.alloc (.cells #[.int .i64 a.x.re, .int .i64 a.x.im, .int .i64 a.x.den, .int .i64 a.y.re, .int .i64 a.y.im, .int .i64 a.y.den] 47)).alloc (.cells #[.int .i64 c.re, .int .i64 c.im, .int .i64 c.den] 23)).alloc (.cells #[.int .i64 0, .int .i64 0, .int .i64 0, .int .i64 0, .int .i64 0, .int .i64 0] 47)).alloc (.cells #[.bool false] 102)) (w.heap.size + 1 + 1) 2) := by
    show Room _ _ _
    exact (Room.new' (by simp) rfl).alloc (by simp) _
  have hsc : ((((w.alloc (.cells #[.int .i64 a.x.re, .int .i64 a.x.im, .int .i64 a.x.den, .int .i64 a.y.re, .int .i64 a.y.im, .int .i64 a.y.den] 47)).alloc (.cells #[.int .i64 c.re, .int .i64 c.im, .int .i64 c.den] 23)).alloc (.cells #[.int .i64 0, .int .i64 0, .int .i64 0, .int .i64 0, .int .i64 0, .int .i64 0] 47)).alloc (.cells #[.bool false] 102)).cell? ⟨w.heap.size + 1 + 1 + 1, 0, none⟩ = some (.bool false) := by simp [go_sem]
  have hsf : ((((w.alloc (.cells #[.int .i64 a.x.re, .int .i64 a.x.im, .int .i64 a.x.den, .int .i64 a.y.re, .int .i64 a.y.im, .int .i64 a.y.den] 47)).alloc (.cells #[.int .i64 c.re, .int .i64 c.im, .int .i64 c.den] 23)).alloc (.cells #[.int .i64 0, .int .i64 0, .int .i64 0, .int .i64 0, .int .i64 0, .int .i64 0] 47)).alloc (.cells #[.bool false] 102)).frozen? ⟨w.heap.size + 1 + 1 + 1, 0, none⟩ = false := by simp [go_sem]
  go_enter Tryd.func29, Tryd.ntmps29
  go_wp2_with fail
  refine (ijv_b hA  _).mono ?_
  rintro e w1 ⟨rfl, hb⟩
  have HR := Lib.hid (HR.out.below hb (by first | omega | (simp <;> omega)))
  have HB := Lib.hid (show Below w.heap.size w w1 from HB.out.trans (hb.mono HB.out.size))
  have hsc := (hb.cell (p := ⟨w.heap.size + 1 + 1 + 1, 0, none⟩) (by first | (show _ < _; omega) | (simp <;> omega))).trans hsc
  have hsf := (hb.frozen (p := ⟨w.heap.size + 1 + 1 + 1, 0, none⟩) (by first | (show _ < _; omega) | (simp <;> omega))).trans hsf
  obtain ⟨hc, hf, hz⟩ := bcellk (B := w.heap.size + 1 + 1 + 1 + 1) hb (by first | omega | (simp <;> omega))
  clear hb
  go_wp2_with fail
  refine (valid_fr c  _).mono ?_
  rintro e w1 ⟨rfl, hb⟩
  have HR := Lib.hid (HR.out.below hb (by first | omega | (simp <;> omega)))
  have HB := Lib.hid (show Below w.heap.size w w1 from HB.out.trans (hb.mono HB.out.size))
  have hsc := (hb.cell (p := ⟨w.heap.size + 1 + 1 + 1, 0, none⟩) (by first | (show _ < _; omega) | (simp <;> omega))).trans hsc
  have hsf := (hb.frozen (p := ⟨w.heap.size + 1 + 1 + 1, 0, none⟩) (by first | (show _ < _; omega) | (simp <;> omega))).trans hsf
  obtain ⟨hc, hf, hz⟩ := bcellk (B := w.heap.size + 1 + 1 + 1 + 1) hb (by first | omega | (simp <;> omega))
  clear hb
  go_wp2_with fail
  refine (need_any (w.heap.size + 1 + 1 + 1) false ((vld c)) w1 (by omega) hsc hsf).mono ?_
  rintro e w2 ho
  obtain ⟨rfl, hs⟩ := ho.fn
  have HR := Lib.hid (HR.out.sm hs (by first | omega | (simp <;> omega)) (by omega))
  have HB := Lib.hid (show Below w.heap.size w _ from hs.own HB.out (by omega))
  have hc0 := hs.atc (w.heap.size) (by first | omega | (simp <;> omega)) (by omega)
  have hc1 := hs.atc (w.heap.size + 1) (by first | omega | (simp <;> omega)) (by omega)
  have hcr := hs.atc (w.heap.size + 1 + 1) (by first | omega | (simp <;> omega)) (by omega)
  have hfr := hs.atf (w.heap.size + 1 + 1) (by first | omega | (simp <;> omega)) (by omega)
  have hz : w.heap.size + 1 + 1 + 1 + 1 ≤ _ := Nat.le_trans (by first | omega | (simp <;> omega)) hs.size
  have hsc := hs.cell
  have hsf := hs.free
  clear ho hs
  go_wp2
  have hsc : w2.drew.cell? ⟨w.heap.size + 1 + 1 + 1, 0, none⟩ = _ := hsc
  have hsf : w2.drew.frozen? ⟨w.heap.size + 1 + 1 + 1, 0, none⟩ = _ := hsf
  have HB : Hid (Below w.heap.size w w2.drew) := HB.out.drew
  have HR : Hid (Room w2.drew (w.heap.size + 1 + 1) 2) := HR.out
  go_region_held3 (fun w' => w'.cell? ⟨w.heap.size, 0, none⟩ = some (.int .i64 a.x.re) ∧ w'.cell? ⟨w.heap.size, 1, none⟩ = some (.int .i64 a.x.im) ∧ w'.cell? ⟨w.heap.size, 2, none⟩ = some (.int .i64 a.x.den) ∧ w'.cell? ⟨w.heap.size, 3, none⟩ = some (.int .i64 a.y.re) ∧ w'.cell? ⟨w.heap.size, 4, none⟩ = some (.int .i64 a.y.im) ∧ w'.cell? ⟨w.heap.size, 5, none⟩ = some (.int .i64 a.y.den) ∧ w'.cell? ⟨w.heap.size + 1, 0, none⟩ = some (.int .i64 c.re) ∧ w'.cell? ⟨w.heap.size + 1, 1, none⟩ = some (.int .i64 c.im) ∧ w'.cell? ⟨w.heap.size + 1, 2, none⟩ = some (.int .i64 c.den))
    (first | go_keep | (simp [*]; done))
    (first
      | (go_at_call 80; (with_reducible refine (stimes_any _ _ _ _ _ (by first | omega | (simp <;> omega)) hsc hsf).mono ?_); rintro e w3 ho; obtain ⟨rfl, hs⟩ := ho.fn; have HR := Lib.hid (HR.out.sm hs (by first | omega | (simp <;> omega)) (by omega)); have HB := Lib.hid (show Below w.heap.size w _ from hs.own HB.out (by omega)); have hc0 := hs.atc (w.heap.size) (by first | omega | (simp <;> omega)) (by omega); have hc1 := hs.atc (w.heap.size + 1) (by first | omega | (simp <;> omega)) (by omega); have hcr := hs.atc (w.heap.size + 1 + 1) (by first | omega | (simp <;> omega)) (by omega); have hfr := hs.atf (w.heap.size + 1 + 1) (by first | omega | (simp <;> omega)) (by omega); have hz : w.heap.size + 1 + 1 + 1 + 1 ≤ _ := Nat.le_trans (by first | omega | (simp <;> omega)) hs.size; have hsc := hs.cell; have hsf := hs.free; clear ho hs)
      | (go_at_call 78; (with_reducible refine (gotJones_yes (w.heap.size + 1 + 1 + 1) ⟨(fTimes a.x c).1, (fTimes a.y c).1⟩ _ (by omega) (hsc.trans (congrArg (fun x => some (Value.bool x)) HE.out))).mono ?_); rintro e w4 ⟨rfl, hb⟩; have HR := Lib.hid (HR.out.below hb (by omega)); have HB := Lib.hid (show Below w.heap.size w w4 from HB.out.trans (hb.mono HB.out.size)); have hc0 := fun o => hb.cell (p := ⟨w.heap.size, o, none⟩) (by show w.heap.size < _; omega); have hc1 := fun o => hb.cell (p := ⟨w.heap.size + 1, o, none⟩) (by show w.heap.size + 1 < _; omega); have hcr := fun o => hb.cell (p := ⟨w.heap.size + 1 + 1, o, none⟩) (by show w.heap.size + 1 + 1 < _; omega); have hfr := fun o => hb.frozen (p := ⟨w.heap.size + 1 + 1, o, none⟩) (by show w.heap.size + 1 + 1 < _; omega); clear hb))
  go_wp2
  refine bodyPost_ret (v := .tuple #[.agg #[.int .i64 ((fTimes a.x c).1).re, .int .i64 ((fTimes a.x c).1).im, .int .i64 ((fTimes a.x c).1).den, .int .i64 ((fTimes a.y c).1).re, .int .i64 ((fTimes a.y c).1).im, .int .i64 ((fTimes a.y c).1).den], .bool true]) ?_ rfl ?_
  · exact Eq.trans (results_cell_mid2 rfl _ _ (w.heap.size + 1 + 1) [.int .i64 ((fTimes a.x c).1).re, .int .i64 ((fTimes a.x c).1).im, .int .i64 ((fTimes a.x c).1).den, .int .i64 ((fTimes a.y c).1).re, .int .i64 ((fTimes a.y c).1).im, .int .i64 ((fTimes a.y c).1).den] _ (by rfl) (World.rangeAt_setCells_same w4 (w.heap.size + 1 + 1) 0 [.int .i64 ((fTimes a.x c).1).re, .int .i64 ((fTimes a.x c).1).im, .int .i64 ((fTimes a.x c).1).den, .int .i64 ((fTimes a.y c).1).re, .int .i64 ((fTimes a.y c).1).im, .int .i64 ((fTimes a.y c).1).den] HR.out.there) Tryd.underlying47 rfl (by kernel_rfl)) rfl
  · exact J2Out.yes (f := ⟨(fTimes a.x c).1, (fTimes a.y c).1⟩) HG.out HV.out (setCells_below (w.heap.size + 1 + 1) [.int .i64 ((fTimes a.x c).1).re, .int .i64 ((fTimes a.x c).1).im, .int .i64 ((fTimes a.x c).1).den, .int .i64 ((fTimes a.y c).1).re, .int .i64 ((fTimes a.y c).1).im, .int .i64 ((fTimes a.y c).1).den] 0 HB.out (by omega))
theorem ijtim_any (a : J2) (c : Fr) (w : World) : Calls Tryd.prog 29 #[.agg #[.int .i64 a.x.re, .int .i64 a.x.im, .int .i64 a.x.den, .int .i64 a.y.re, .int .i64 a.y.im, .int .i64 a.y.den], .agg #[.int .i64 c.re, .int .i64 c.im, .int .i64 c.den]] w (J2Out (jTimI a c) w) := by
  cases hA : jv a
  · cases h : (jTimI a c).2
    · exact ijtimF_no a c hA h w
    · exfalso
      have hE := (ends (gt_end _ _ _).1).2 h
      (try unfold eJin at hE)
      rw [hA] at hE
      simp at hE
  · cases h : (jTimI a c).2
    · exact ijtimT_no a c hA h w
    · exact ijtimT_yes a c hA h w
theorem ijtim (a : J2) (c : Fr) (w : World) : Calls Tryd.prog 29 #[.agg #[.int .i64 a.x.re, .int .i64 a.x.im, .int .i64 a.x.den, .int .i64 a.y.re, .int .i64 a.y.im, .int .i64 a.y.den], .agg #[.int .i64 c.re, .int .i64 c.im, .int .i64 c.den]] w (J2Out (jTim a c) w) := jTimI_eq a c ▸ ijtim_any a c w
end Go.Proofs.YtmcokdiopcpifaaDoor
