/- Contracts: draws of a matrix and a vector. -/
import Derived.Test.YtcpdapfcbnhgaaaDoorJ
import Derived.Test.YtcpdapfcbnhgaaaDoorSG
import Derived.Test.YtcpdapfcbnhgaaaDoorN
import Derived.Test.YtcpdapfcbnhgaaaDoorQL
import Derived.Test.YtcpdapfcbnhgaaaDoorDM2
/- J2 -/
namespace Go.Proofs.YtcpdapfcbnhgaaaDoor
open Go.RowKit Pol

set_option maxRecDepth 100000 in
set_option maxHeartbeats 8000000 in
theorem ijpow_no (a : J2) (hg : (jPowI a).2 = false) (w : World) :
    Calls Tryd.prog 44 #[.agg #[.int .i64 a.x.re, .int .i64 a.x.im, .int .i64 a.x.den, .int .i64 a.y.re, .int .i64 a.y.im, .int .i64 a.y.den]] w (FrOut (jPowI a) w) := by
  have HE := Lib.hid ((ends (gt_end _ _ _).1).1 hg)
  have HG := Lib.hid hg; clear hg
  have HB : Hid (Below w.heap.size w (((w.alloc (.cells #[.int .i64 a.x.re, .int .i64 a.x.im, .int .i64 a.x.den, .int .i64 a.y.re, .int .i64 a.y.im, .int .i64 a.y.den] 37)).alloc (.cells #[.int .i64 0, .int .i64 0, .int .i64 0] 25)).alloc (.cells #[.bool false] 82))) := by
    show Below _ _ _
    (repeat' first | exact Below.refl _ _ | apply bl_alloc | apply bl_drewN | apply bl_drew | refine bl_trans ?_ (by assumption) | refine bl_set ?_ (by first | omega | (simp <;> omega)) _)
  have HR : Hid (Room (((w.alloc (.cells #[.int .i64 a.x.re, .int .i64 a.x.im, .int .i64 a.x.den, .int .i64 a.y.re, .int .i64 a.y.im, .int .i64 a.y.den] 37)).alloc (.cells #[.int .i64 0, .int .i64 0, .int .i64 0] 25)).alloc (.cells #[.bool false] 82)) (w.heap.size + 1) 1) := by
    show Room _ _ _
    exact (Room.new' (by simp) rfl).alloc (by simp) _
  have hsc : (((w.alloc (.cells #[.int .i64 a.x.re, .int .i64 a.x.im, .int .i64 a.x.den, .int .i64 a.y.re, .int .i64 a.y.im, .int .i64 a.y.den] 37)).alloc (.cells #[.int .i64 0, .int .i64 0, .int .i64 0] 25)).alloc (.cells #[.bool false] 82)).cell? ⟨w.heap.size + 1 + 1, 0, none⟩ = some (.bool false) := by simp [go_sem]
  have hsf : (((w.alloc (.cells #[.int .i64 a.x.re, .int .i64 a.x.im, .int .i64 a.x.den, .int .i64 a.y.re, .int .i64 a.y.im, .int .i64 a.y.den] 37)).alloc (.cells #[.int .i64 0, .int .i64 0, .int .i64 0] 25)).alloc (.cells #[.bool false] 82)).frozen? ⟨w.heap.size + 1 + 1, 0, none⟩ = false := by simp [go_sem]
  go_enter Tryd.func44, Tryd.ntmps44
  go_wp2_with fail
  refine (ijv_any a  _).mono ?_
  rintro e w1 ⟨rfl, hb⟩
  have HR := Lib.hid (HR.out.below hb (by first | omega | (simp <;> omega)))
  have HB := Lib.hid (show Below w.heap.size w w1 from HB.out.trans (hb.mono HB.out.size))
  have hsc := (hb.cell (p := ⟨w.heap.size + 1 + 1, 0, none⟩) (by first | (show _ < _; omega) | (simp <;> omega))).trans hsc
  have hsf := (hb.frozen (p := ⟨w.heap.size + 1 + 1, 0, none⟩) (by first | (show _ < _; omega) | (simp <;> omega))).trans hsf
  obtain ⟨hc, hf, hz⟩ := bcellk (B := w.heap.size + 1 + 1 + 1) hb (by first | omega | (simp <;> omega))
  clear hb
  go_wp2_with fail
  refine (need_any (w.heap.size + 1 + 1) false ((jv a)) w1 (by omega) hsc hsf).mono ?_
  rintro e w2 ho
  obtain ⟨rfl, hs⟩ := ho.fn
  have HR := Lib.hid (HR.out.sm hs (by first | omega | (simp <;> omega)) (by omega))
  have HB := Lib.hid (show Below w.heap.size w _ from hs.own HB.out (by omega))
  have hc0 := hs.atc (w.heap.size) (by first | omega | (simp <;> omega)) (by omega)
  have hcr := hs.atc (w.heap.size + 1) (by first | omega | (simp <;> omega)) (by omega)
  have hfr := hs.atf (w.heap.size + 1) (by first | omega | (simp <;> omega)) (by omega)
  have hz : w.heap.size + 1 + 1 + 1 ≤ _ := Nat.le_trans (by first | omega | (simp <;> omega)) hs.size
  have hsc := hs.cell
  have hsf := hs.free
  clear ho hs
  go_wp2
  have hsc : w2.drew.cell? ⟨w.heap.size + 1 + 1, 0, none⟩ = _ := hsc
  have hsf : w2.drew.frozen? ⟨w.heap.size + 1 + 1, 0, none⟩ = _ := hsf
  have HB : Hid (Below w.heap.size w w2.drew) := HB.out.drew
  have HR : Hid (Room w2.drew (w.heap.size + 1) 1) := HR.out
  go_region_held3 (fun w' => w'.cell? ⟨w.heap.size, 0, none⟩ = some (.int .i64 a.x.re) ∧ w'.cell? ⟨w.heap.size, 1, none⟩ = some (.int .i64 a.x.im) ∧ w'.cell? ⟨w.heap.size, 2, none⟩ = some (.int .i64 a.x.den) ∧ w'.cell? ⟨w.heap.size, 3, none⟩ = some (.int .i64 a.y.re) ∧ w'.cell? ⟨w.heap.size, 4, none⟩ = some (.int .i64 a.y.im) ∧ w'.cell? ⟨w.heap.size, 5, none⟩ = some (.int .i64 a.y.den))
    (first | go_keep | (simp [*]; done))
    (first
      | (go_at_call 55; (with_reducible refine (spower_any _ _ _ _ (by first | omega | (simp <;> omega)) hsc hsf).mono ?_); rintro e w3 ho; obtain ⟨rfl, hs⟩ := ho.fn; have HR := Lib.hid (HR.out.sm hs (by first | omega | (simp <;> omega)) (by omega)); have HB := Lib.hid (show Below w.heap.size w _ from hs.own HB.out (by omega)); have hc0 := hs.atc (w.heap.size) (by first | omega | (simp <;> omega)) (by omega); have hcr := hs.atc (w.heap.size + 1) (by first | omega | (simp <;> omega)) (by omega); have hfr := hs.atf (w.heap.size + 1) (by first | omega | (simp <;> omega)) (by omega); have hz : w.heap.size + 1 + 1 + 1 ≤ _ := Nat.le_trans (by first | omega | (simp <;> omega)) hs.size; have hsc := hs.cell; have hsf := hs.free; clear ho hs)
      | (go_at_call 59; (with_reducible refine (sadd_any _ _ _ _ _ (by first | omega | (simp <;> omega)) hsc hsf).mono ?_); rintro e w3 ho; obtain ⟨rfl, hs⟩ := ho.fn; have HR := Lib.hid (HR.out.sm hs (by first | omega | (simp <;> omega)) (by omega)); have HB := Lib.hid (show Below w.heap.size w _ from hs.own HB.out (by omega)); have hc0 := hs.atc (w.heap.size) (by first | omega | (simp <;> omega)) (by omega); have hcr := hs.atc (w.heap.size + 1) (by first | omega | (simp <;> omega)) (by omega); have hfr := hs.atf (w.heap.size + 1) (by first | omega | (simp <;> omega)) (by omega); have hz : w.heap.size + 1 + 1 + 1 ≤ _ := Nat.le_trans (by first | omega | (simp <;> omega)) hs.size; have hsc := hs.cell; have hsf := hs.free; clear ho hs)
      | (go_at_call 73; (with_reducible refine (gotFrac_no (w.heap.size + 1 + 1) (fAdd (fPower a.x).1 (fPower a.y).1).1 _ (by omega) (hsc.trans (congrArg (fun x => some (Value.bool x)) HE.out))).mono ?_); rintro e w4 ⟨rfl, hb⟩; have HR := Lib.hid (HR.out.below hb (by omega)); have HB := Lib.hid (show Below w.heap.size w w4 from HB.out.trans (hb.mono HB.out.size)); have hc0 := fun o => hb.cell (p := ⟨w.heap.size, o, none⟩) (by show w.heap.size < _; omega); have hcr := fun o => hb.cell (p := ⟨w.heap.size + 1, o, none⟩) (by show w.heap.size + 1 < _; omega); have hfr := fun o => hb.frozen (p := ⟨w.heap.size + 1, o, none⟩) (by show w.heap.size + 1 < _; omega); clear hb))
  go_wp2
  refine bodyPost_ret (v := .tuple #[.agg #[.int .i64 0, .int .i64 0, .int .i64 0], .bool false]) ?_ rfl ?_
  · exact Eq.trans (results_cell_mid2 rfl _ _ (w.heap.size + 1) [.int .i64 0, .int .i64 0, .int .i64 0] _ (by rfl) (World.rangeAt_setCells_same w4 (w.heap.size + 1) 0 [.int .i64 0, .int .i64 0, .int .i64 0] HR.out.there) Tryd.underlying25 rfl (by kernel_rfl)) rfl
  · exact FrOut.no (gt_no HG.out) (setCells_below (w.heap.size + 1) [.int .i64 0, .int .i64 0, .int .i64 0] 0 HB.out (by omega))
set_option maxRecDepth 100000 in
set_option maxHeartbeats 8000000 in
theorem ijpow_yes (a : J2) (hg : (jPowI a).2 = true) (w : World) :
    Calls Tryd.prog 44 #[.agg #[.int .i64 a.x.re, .int .i64 a.x.im, .int .i64 a.x.den, .int .i64 a.y.re, .int .i64 a.y.im, .int .i64 a.y.den]] w (FrOut (jPowI a) w) := by
  have HE := Lib.hid ((ends (gt_end _ _ _).1).2 hg)
  have HV := Lib.hid ((gt_end _ _ _).2 hg)
  have HG := Lib.hid hg; clear hg
  have HB : Hid (Below w.heap.size w (((w.alloc (.cells #[.int .i64 a.x.re, .int .i64 a.x.im, .int .i64 a.x.den, .int .i64 a.y.re, .int .i64 a.y.im, .int .i64 a.y.den] 37)).alloc (.cells #[.int .i64 0, .int .i64 0, .int .i64 0] 25)).alloc (.cells #[.bool false] 82))) := by
    show Below _ _ _
    (repeat' first | exact Below.refl _ _ | apply bl_alloc | apply bl_drewN | apply bl_drew | refine bl_trans ?_ (by assumption) | refine bl_set ?_ (by first | omega | (simp <;> omega)) _)
  have HR : Hid (Room (((w.alloc (.cells #[.int .i64 a.x.re, .int .i64 a.x.im, .int .i64 a.x.den, .int .i64 a.y.re, .int .i64 a.y.im, .int .i64 a.y.den] 37)).alloc (.cells #[.int .i64 0, .int .i64 0, .int .i64 0] 25)).alloc (.cells #[.bool false] 82)) (w.heap.size + 1) 1) := by
    show Room _ _ _
    exact (Room.new' (by simp) rfl).alloc (by simp) _
  have hsc : (((w.alloc (.cells #[.int .i64 a.x.re, .int .i64 a.x.im, .int .i64 a.x.den, .int .i64 a.y.re, .int .i64 a.y.im, .int .i64 a.y.den] 37)).alloc (.cells #[.int .i64 0, .int .i64 0, .int .i64 0] 25)).alloc (.cells #[.bool false] 82)).cell? ⟨w.heap.size + 1 + 1, 0, none⟩ = some (.bool false) := by simp [go_sem]
  have hsf : (((w.alloc (.cells #[.int .i64 a.x.re, .int .i64 a.x.im, .int .i64 a.x.den, .int .i64 a.y.re, .int .i64 a.y.im, .int .i64 a.y.den] 37)).alloc (.cells #[.int .i64 0, .int .i64 0, .int .i64 0] 25)).alloc (.cells #[.bool false] 82)).frozen? ⟨w.heap.size + 1 + 1, 0, none⟩ = false := by simp [go_sem]
  go_enter Tryd.func44, Tryd.ntmps44
  go_wp2_with fail
  refine (ijv_any a  _).mono ?_
  rintro e w1 ⟨rfl, hb⟩
  have HR := Lib.hid (HR.out.below hb (by first | omega | (simp <;> omega)))
  have HB := Lib.hid (show Below w.heap.size w w1 from HB.out.trans (hb.mono HB.out.size))
  have hsc := (hb.cell (p := ⟨w.heap.size + 1 + 1, 0, none⟩) (by first | (show _ < _; omega) | (simp <;> omega))).trans hsc
  have hsf := (hb.frozen (p := ⟨w.heap.size + 1 + 1, 0, none⟩) (by first | (show _ < _; omega) | (simp <;> omega))).trans hsf
  obtain ⟨hc, hf, hz⟩ := bcellk (B := w.heap.size + 1 + 1 + 1) hb (by first | omega | (simp <;> omega))
  clear hb
  go_wp2_with fail
  refine (need_any (w.heap.size + 1 + 1) false ((jv a)) w1 (by omega) hsc hsf).mono ?_
  rintro e w2 ho
  obtain ⟨rfl, hs⟩ := ho.fn
  have HR := Lib.hid (HR.out.sm hs (by first | omega | (simp <;> omega)) (by omega))
  have HB := Lib.hid (show Below w.heap.size w _ from hs.own HB.out (by omega))
  have hc0 := hs.atc (w.heap.size) (by first | omega | (simp <;> omega)) (by omega)
  have hcr := hs.atc (w.heap.size + 1) (by first | omega | (simp <;> omega)) (by omega)
  have hfr := hs.atf (w.heap.size + 1) (by first | omega | (simp <;> omega)) (by omega)
  have hz : w.heap.size + 1 + 1 + 1 ≤ _ := Nat.le_trans (by first | omega | (simp <;> omega)) hs.size
  have hsc := hs.cell
  have hsf := hs.free
  clear ho hs
  go_wp2
  have hsc : w2.drew.cell? ⟨w.heap.size + 1 + 1, 0, none⟩ = _ := hsc
  have hsf : w2.drew.frozen? ⟨w.heap.size + 1 + 1, 0, none⟩ = _ := hsf
  have HB : Hid (Below w.heap.size w w2.drew) := HB.out.drew
  have HR : Hid (Room w2.drew (w.heap.size + 1) 1) := HR.out
  go_region_held3 (fun w' => w'.cell? ⟨w.heap.size, 0, none⟩ = some (.int .i64 a.x.re) ∧ w'.cell? ⟨w.heap.size, 1, none⟩ = some (.int .i64 a.x.im) ∧ w'.cell? ⟨w.heap.size, 2, none⟩ = some (.int .i64 a.x.den) ∧ w'.cell? ⟨w.heap.size, 3, none⟩ = some (.int .i64 a.y.re) ∧ w'.cell? ⟨w.heap.size, 4, none⟩ = some (.int .i64 a.y.im) ∧ w'.cell? ⟨w.heap.size, 5, none⟩ = some (.int .i64 a.y.den))
    (first | go_keep | (simp [*]; done))
    (first
      | (go_at_call 55; (with_reducible refine (spower_any _ _ _ _ (by first | omega | (simp <;> omega)) hsc hsf).mono ?_); rintro e w3 ho; obtain ⟨rfl, hs⟩ := ho.fn; have HR := Lib.hid (HR.out.sm hs (by first | omega | (simp <;> omega)) (by omega)); have HB := Lib.hid (show Below w.heap.size w _ from hs.own HB.out (by omega)); have hc0 := hs.atc (w.heap.size) (by first | omega | (simp <;> omega)) (by omega); have hcr := hs.atc (w.heap.size + 1) (by first | omega | (simp <;> omega)) (by omega); have hfr := hs.atf (w.heap.size + 1) (by first | omega | (simp <;> omega)) (by omega); have hz : w.heap.size + 1 + 1 + 1 ≤ _ := Nat.le_trans (by first | omega | (simp <;> omega)) hs.size; have hsc := hs.cell; have hsf := hs.free; clear ho hs)
      | (go_at_call 59; (with_reducible refine (sadd_any _ _ _ _ _ (by first | omega | (simp <;> omega)) hsc hsf).mono ?_); rintro e w3 ho; obtain ⟨rfl, hs⟩ := ho.fn; have HR := Lib.hid (HR.out.sm hs (by first | omega | (simp <;> omega)) (by omega)); have HB := Lib.hid (show Below w.heap.size w _ from hs.own HB.out (by omega)); have hc0 := hs.atc (w.heap.size) (by first | omega | (simp <;> omega)) (by omega); have hcr := hs.atc (w.heap.size + 1) (by first | omega | (simp <;> omega)) (by omega); have hfr := hs.atf (w.heap.size + 1) (by first | omega | (simp <;> omega)) (by omega); have hz : w.heap.size + 1 + 1 + 1 ≤ _ := Nat.le_trans (by first | omega | (simp <;> omega)) hs.size; have hsc := hs.cell; have hsf := hs.free; clear ho hs)
      | (go_at_call 73; (with_reducible refine (gotFrac_yes (w.heap.size + 1 + 1) (fAdd (fPower a.x).1 (fPower a.y).1).1 _ (by omega) (hsc.trans (congrArg (fun x => some (Value.bool x)) HE.out))).mono ?_); rintro e w4 ⟨rfl, hb⟩; have HR := Lib.hid (HR.out.below hb (by omega)); have HB := Lib.hid (show Below w.heap.size w w4 from HB.out.trans (hb.mono HB.out.size)); have hc0 := fun o => hb.cell (p := ⟨w.heap.size, o, none⟩) (by show w.heap.size < _; omega); have hcr := fun o => hb.cell (p := ⟨w.heap.size + 1, o, none⟩) (by show w.heap.size + 1 < _; omega); have hfr := fun o => hb.frozen (p := ⟨w.heap.size + 1, o, none⟩) (by show w.heap.size + 1 < _; omega); clear hb))
  go_wp2
  refine bodyPost_ret (v := .tuple #[.agg #[.int .i64 ((fAdd (fPower a.x).1 (fPower a.y).1).1).re, .int .i64 ((fAdd (fPower a.x).1 (fPower a.y).1).1).im, .int .i64 ((fAdd (fPower a.x).1 (fPower a.y).1).1).den], .bool true]) ?_ rfl ?_
  · exact Eq.trans (results_cell_mid2 rfl _ _ (w.heap.size + 1) [.int .i64 ((fAdd (fPower a.x).1 (fPower a.y).1).1).re, .int .i64 ((fAdd (fPower a.x).1 (fPower a.y).1).1).im, .int .i64 ((fAdd (fPower a.x).1 (fPower a.y).1).1).den] _ (by rfl) (World.rangeAt_setCells_same w4 (w.heap.size + 1) 0 [.int .i64 ((fAdd (fPower a.x).1 (fPower a.y).1).1).re, .int .i64 ((fAdd (fPower a.x).1 (fPower a.y).1).1).im, .int .i64 ((fAdd (fPower a.x).1 (fPower a.y).1).1).den] HR.out.there) Tryd.underlying25 rfl (by kernel_rfl)) rfl
  · exact FrOut.yes (f := (fAdd (fPower a.x).1 (fPower a.y).1).1) HG.out HV.out (setCells_below (w.heap.size + 1) [.int .i64 ((fAdd (fPower a.x).1 (fPower a.y).1).1).re, .int .i64 ((fAdd (fPower a.x).1 (fPower a.y).1).1).im, .int .i64 ((fAdd (fPower a.x).1 (fPower a.y).1).1).den] 0 HB.out (by omega))
theorem ijpow_any (a : J2) (w : World) : Calls Tryd.prog 44 #[.agg #[.int .i64 a.x.re, .int .i64 a.x.im, .int .i64 a.x.den, .int .i64 a.y.re, .int .i64 a.y.im, .int .i64 a.y.den]] w (FrOut (jPowI a) w) := by
  cases h : (jPowI a).2
  · exact ijpow_no a h w
  · exact ijpow_yes a h w
theorem ijpow (a : J2) (w : World) : Calls Tryd.prog 44 #[.agg #[.int .i64 a.x.re, .int .i64 a.x.im, .int .i64 a.x.den, .int .i64 a.y.re, .int .i64 a.y.im, .int .i64 a.y.den]] w (FrOut (jPow a) w) := jPowI_eq a ▸ ijpow_any a w
end Go.Proofs.YtcpdapfcbnhgaaaDoor
/- J3 -/
namespace Go.Proofs.YtcpdapfcbnhgaaaDoor
open Go.RowKit Pol

theorem ijv_b {a : J2} {b : Bool} (h : jv a = b) (w : World) : Calls Tryd.prog 54 #[.agg #[.int .i64 a.x.re, .int .i64 a.x.im, .int .i64 a.x.den, .int .i64 a.y.re, .int .i64 a.y.im, .int .i64 a.y.den]] w fun e w' => e = .returned (.bool b) ∧ Below w.heap.size w w' := h ▸ ijv_any a w
set_option maxRecDepth 100000 in
set_option maxHeartbeats 8000000 in
theorem ijinF_no (a : J2) (b : J2) (hA : jv a = false) (hg : (jInI a b).2 = false) (w : World) :
    Calls Tryd.prog 45 #[.agg #[.int .i64 a.x.re, .int .i64 a.x.im, .int .i64 a.x.den, .int .i64 a.y.re, .int .i64 a.y.im, .int .i64 a.y.den], .agg #[.int .i64 b.x.re, .int .i64 b.x.im, .int .i64 b.x.den, .int .i64 b.y.re, .int .i64 b.y.im, .int .i64 b.y.den]] w (FrOut (jInI a b) w) := by
  have HE := Lib.hid ((ends (gt_end _ _ _).1).1 hg)
  have hE := HE.out
  clear HE
  (try unfold eJin at hE)
  rw [hA] at hE
  simp only [Bool.false_and] at hE
  have HE := Lib.hid hE
  clear hE
  have HG := Lib.hid hg; clear hg
  have nn0 : ¬ w.heap.size + 1 + 1 = w.heap.size := by omega
  have nm0 : ¬ w.heap.size = w.heap.size + 1 + 1 := by omega
  have nn1 : ¬ w.heap.size + 1 + 1 = w.heap.size + 1 := by omega
  have nm1 : ¬ w.heap.size + 1 = w.heap.size + 1 + 1 := by omega
  have HB : Hid (Below w.heap.size w ((((w.alloc (.cells #[.int .i64 a.x.re, .int .i64 a.x.im, .int .i64 a.x.den, .int .i64 a.y.re, .int .i64 a.y.im, .int .i64 a.y.den] 37)).alloc (.cells #[.int .i64 b.x.re, .int .i64 b.x.im, .int .i64 b.x.den, .int .i64 b.y.re, .int .i64 b.y.im, .int .i64 b.y.den] 37)).alloc (.cells #[.int .i64 0, .int .i64 0, .int .i64 0] 25)).alloc (.cells #[.bool false] 82))) := by
    show Below _ _ _
    (repeat' first | exact Below.refl _ _ | apply bl_alloc | apply bl_drewN | apply bl_drew | refine bl_trans ?_ (by assumption) | refine bl_set ?_ (by first | omega | (simp <;> omega)) _)
  have HR : Hid (Room ((((w.alloc (.cells #[.int .i64 a.x.re, .int .i64 a.x.im, .int .i64 a.x.den, .int .i64 a.y.re, .int .i64 a.y.im, .int .i64 a.y.den] 37)).alloc (.cells #[.int .i64 b.x.re, .int .i64 b.x.im, .int .i64 b.x.den, .int .i64 b.y.re, .int .i64 b.y.im, .int .i64 b.y.den] 37)).alloc (.cells #[.int .i64 0, .int .i64 0, .int .i64 0] 25)).alloc (.cells #[.bool false] 82)) (w.heap.size + 1 + 1) 1) := by
    show Room _ _ _
    exact (Room.new' (by simp) rfl).alloc (by simp) _
  have hsc : ((((w.alloc (.cells #[.int .i64 a.x.re, .int .i64 a.x.im, .int .i64 a.x.den, .int .i64 a.y.re, .int .i64 a.y.im, .int .i64 a.y.den] 37)).alloc (.cells #[.int .i64 b.x.re, .int .i64 b.x.im, .int .i64 b.x.den, .int .i64 b.y.re, .int .i64 b.y.im, .int .i64 b.y.den] 37)).alloc (.cells #[.int .i64 0, .int .i64 0, .int .i64 0] 25)).alloc (.cells #[.bool false] 82)).cell? ⟨w.heap.size + 1 + 1 + 1, 0, none⟩ = some (.bool false) := by simp [go_sem]
  have hsf : ((((w.alloc (.cells #[.int .i64 a.x.re, .int .i64 a.x.im, .int .i64 a.x.den, .int .i64 a.y.re, .int .i64 a.y.im, .int .i64 a.y.den] 37)).alloc (.cells #[.int .i64 b.x.re, .int .i64 b.x.im, .int .i64 b.x.den, .int .i64 b.y.re, .int .i64 b.y.im, .int .i64 b.y.den] 37)).alloc (.cells #[.int .i64 0, .int .i64 0, .int .i64 0] 25)).alloc (.cells #[.bool false] 82)).frozen? ⟨w.heap.size + 1 + 1 + 1, 0, none⟩ = false := by simp [go_sem]
  go_enter Tryd.func45, Tryd.ntmps45
  go_wp2_with fail
  refine (ijv_b hA  _).mono ?_
  rintro e w1 ⟨rfl, hb⟩
  have HR := Lib.hid (HR.out.below hb (by first | omega | (simp <;> omega)))
  have HB := Lib.hid (show Below w.heap.size w w1 from HB.out.trans (hb.mono HB.out.size))
  have hsc := (hb.cell (p := ⟨w.heap.size + 1 + 1 + 1, 0, none⟩) (by first | (show _ < _; omega) | (simp <;> omega))).trans hsc
  have hsf := (hb.frozen (p := ⟨w.heap.size + 1 + 1 + 1, 0, none⟩) (by first | (show _ < _; omega) | (simp <;> omega))).trans hsf
  obtain ⟨hc, hf, hz⟩ := bcellk (B := w.heap.size + 1 + 1 + 1 + 1) hb (by first | omega | (simp <;> omega))
  clear hb
  go_wp2_with fail
  refine (need_any (w.heap.size + 1 + 1 + 1) false (false) w1 (by omega) hsc hsf).mono ?_
  rintro e w2 ho
  obtain ⟨rfl, hs⟩ := ho.fn
  have HR := Lib.hid (HR.out.sm hs (by first | omega | (simp <;> omega)) (by omega))
  have HB := Lib.hid (show Below w.heap.size w _ from hs.own HB.out (by omega))
  have hc0 := hs.atc (w.heap.size) (by first | omega | (simp <;> omega)) (by omega)
  have hc1 := hs.atc (w.heap.size + 1) (by first | omega | (simp <;> omega)) (by omega)
  have hcr := hs.atc (w.heap.size + 1 + 1) (by first | omega | (simp <;> omega)) (by omega)
  have hfr := hs.atf (w.heap.size + 1 + 1) (by first | omega | (simp <;> omega)) (by omega)
  have hz : w.heap.size + 1 + 1 + 1 + 1 ≤ _ := Nat.le_trans (by first | omega | (simp <;> omega)) hs.size
  have hsc := hs.cell
  have hsf := hs.free
  clear ho hs
  go_wp2
  have hsc : w2.drew.cell? ⟨w.heap.size + 1 + 1 + 1, 0, none⟩ = _ := hsc
  have hsf : w2.drew.frozen? ⟨w.heap.size + 1 + 1 + 1, 0, none⟩ = _ := hsf
  have HB : Hid (Below w.heap.size w w2.drew) := HB.out.drew
  have HR : Hid (Room w2.drew (w.heap.size + 1 + 1) 1) := HR.out
  go_region_held3 (fun w' => w'.cell? ⟨w.heap.size, 0, none⟩ = some (.int .i64 a.x.re) ∧ w'.cell? ⟨w.heap.size, 1, none⟩ = some (.int .i64 a.x.im) ∧ w'.cell? ⟨w.heap.size, 2, none⟩ = some (.int .i64 a.x.den) ∧ w'.cell? ⟨w.heap.size, 3, none⟩ = some (.int .i64 a.y.re) ∧ w'.cell? ⟨w.heap.size, 4, none⟩ = some (.int .i64 a.y.im) ∧ w'.cell? ⟨w.heap.size, 5, none⟩ = some (.int .i64 a.y.den) ∧ w'.cell? ⟨w.heap.size + 1, 0, none⟩ = some (.int .i64 b.x.re) ∧ w'.cell? ⟨w.heap.size + 1, 1, none⟩ = some (.int .i64 b.x.im) ∧ w'.cell? ⟨w.heap.size + 1, 2, none⟩ = some (.int .i64 b.x.den) ∧ w'.cell? ⟨w.heap.size + 1, 3, none⟩ = some (.int .i64 b.y.re) ∧ w'.cell? ⟨w.heap.size + 1, 4, none⟩ = some (.int .i64 b.y.im) ∧ w'.cell? ⟨w.heap.size + 1, 5, none⟩ = some (.int .i64 b.y.den))
    (first | go_keep | (simp [*]; done))
    (first
      | (go_at_call 57; (with_reducible refine (smirror_any _ _ _ _ (by first | omega | (simp <;> omega)) hsc hsf).mono ?_); rintro e w3 ho; obtain ⟨rfl, hs⟩ := ho.fn; have HR := Lib.hid (HR.out.sm hs (by first | omega | (simp <;> omega)) (by omega)); have HB := Lib.hid (show Below w.heap.size w _ from hs.own HB.out (by omega)); have hc0 := hs.atc (w.heap.size) (by first | omega | (simp <;> omega)) (by omega); have hc1 := hs.atc (w.heap.size + 1) (by first | omega | (simp <;> omega)) (by omega); have hcr := hs.atc (w.heap.size + 1 + 1) (by first | omega | (simp <;> omega)) (by omega); have hfr := hs.atf (w.heap.size + 1 + 1) (by first | omega | (simp <;> omega)) (by omega); have hz : w.heap.size + 1 + 1 + 1 + 1 ≤ _ := Nat.le_trans (by first | omega | (simp <;> omega)) hs.size; have hsc := hs.cell; have hsf := hs.free; clear ho hs)
      | (go_at_call 56; (with_reducible refine (stimes_any _ _ _ _ _ (by first | omega | (simp <;> omega)) hsc hsf).mono ?_); rintro e w3 ho; obtain ⟨rfl, hs⟩ := ho.fn; have HR := Lib.hid (HR.out.sm hs (by first | omega | (simp <;> omega)) (by omega)); have HB := Lib.hid (show Below w.heap.size w _ from hs.own HB.out (by omega)); have hc0 := hs.atc (w.heap.size) (by first | omega | (simp <;> omega)) (by omega); have hc1 := hs.atc (w.heap.size + 1) (by first | omega | (simp <;> omega)) (by omega); have hcr := hs.atc (w.heap.size + 1 + 1) (by first | omega | (simp <;> omega)) (by omega); have hfr := hs.atf (w.heap.size + 1 + 1) (by first | omega | (simp <;> omega)) (by omega); have hz : w.heap.size + 1 + 1 + 1 + 1 ≤ _ := Nat.le_trans (by first | omega | (simp <;> omega)) hs.size; have hsc := hs.cell; have hsf := hs.free; clear ho hs)
      | (go_at_call 59; (with_reducible refine (sadd_any _ _ _ _ _ (by first | omega | (simp <;> omega)) hsc hsf).mono ?_); rintro e w3 ho; obtain ⟨rfl, hs⟩ := ho.fn; have HR := Lib.hid (HR.out.sm hs (by first | omega | (simp <;> omega)) (by omega)); have HB := Lib.hid (show Below w.heap.size w _ from hs.own HB.out (by omega)); have hc0 := hs.atc (w.heap.size) (by first | omega | (simp <;> omega)) (by omega); have hc1 := hs.atc (w.heap.size + 1) (by first | omega | (simp <;> omega)) (by omega); have hcr := hs.atc (w.heap.size + 1 + 1) (by first | omega | (simp <;> omega)) (by omega); have hfr := hs.atf (w.heap.size + 1 + 1) (by first | omega | (simp <;> omega)) (by omega); have hz : w.heap.size + 1 + 1 + 1 + 1 ≤ _ := Nat.le_trans (by first | omega | (simp <;> omega)) hs.size; have hsc := hs.cell; have hsf := hs.free; clear ho hs)
      | (go_at_call 73; (with_reducible refine (gotFrac_no (w.heap.size + 1 + 1 + 1) (fAdd (fTimes a.x (fMirror b.x).1).1 (fTimes a.y (fMirror b.y).1).1).1 _ (by omega) (hsc.trans (congrArg (fun x => some (Value.bool x)) HE.out))).mono ?_); rintro e w4 ⟨rfl, hb⟩; have HR := Lib.hid (HR.out.below hb (by omega)); have HB := Lib.hid (show Below w.heap.size w w4 from HB.out.trans (hb.mono HB.out.size)); have hc0 := fun o => hb.cell (p := ⟨w.heap.size, o, none⟩) (by show w.heap.size < _; omega); have hc1 := fun o => hb.cell (p := ⟨w.heap.size + 1, o, none⟩) (by show w.heap.size + 1 < _; omega); have hcr := fun o => hb.cell (p := ⟨w.heap.size + 1 + 1, o, none⟩) (by show w.heap.size + 1 + 1 < _; omega); have hfr := fun o => hb.frozen (p := ⟨w.heap.size + 1 + 1, o, none⟩) (by show w.heap.size + 1 + 1 < _; omega); clear hb))
  go_wp2
  refine bodyPost_ret (v := .tuple #[.agg #[.int .i64 0, .int .i64 0, .int .i64 0], .bool false]) ?_ rfl ?_
  · exact Eq.trans (results_cell_mid2 rfl _ _ (w.heap.size + 1 + 1) [.int .i64 0, .int .i64 0, .int .i64 0] _ (by rfl) (World.rangeAt_setCells_same w4 (w.heap.size + 1 + 1) 0 [.int .i64 0, .int .i64 0, .int .i64 0] HR.out.there) Tryd.underlying25 rfl (by kernel_rfl)) rfl
  · exact FrOut.no (gt_no HG.out) (setCells_below (w.heap.size + 1 + 1) [.int .i64 0, .int .i64 0, .int .i64 0] 0 HB.out (by omega))
set_option maxRecDepth 100000 in
set_option maxHeartbeats 8000000 in
theorem ijinT_no (a : J2) (b : J2) (hA : jv a = true) (hg : (jInI a b).2 = false) (w : World) :
    Calls Tryd.prog 45 #[.agg #[.int .i64 a.x.re, .int .i64 a.x.im, .int .i64 a.x.den, .int .i64 a.y.re, .int .i64 a.y.im, .int .i64 a.y.den], .agg #[.int .i64 b.x.re, .int .i64 b.x.im, .int .i64 b.x.den, .int .i64 b.y.re, .int .i64 b.y.im, .int .i64 b.y.den]] w (FrOut (jInI a b) w) := by
  have HE := Lib.hid ((ends (gt_end _ _ _).1).1 hg)
  have hE := HE.out
  clear HE
  (try unfold eJin at hE)
  rw [hA] at hE
  simp only [Bool.true_and] at hE
  have HE := Lib.hid hE
  clear hE
  have HG := Lib.hid hg; clear hg
  have nn0 : ¬ w.heap.size + 1 + 1 = w.heap.size := by omega
  have nm0 : ¬ w.heap.size = w.heap.size + 1 + 1 := by omega
  have nn1 : ¬ w.heap.size + 1 + 1 = w.heap.size + 1 := by omega
  have nm1 : ¬ w.heap.size + 1 = w.heap.size + 1 + 1 := by omega
  have HB : Hid (Below w.heap.size w ((((w.alloc (.cells #[.int .i64 a.x.re, .int .i64 a.x.im, .int .i64 a.x.den, .int .i64 a.y.re, .int .i64 a.y.im, .int .i64 a.y.den] 37)).alloc (.cells #[.int .i64 b.x.re, .int .i64 b.x.im, .int .i64 b.x.den, .int .i64 b.y.re, .int .i64 b.y.im, .int .i64 b.y.den] 37)).alloc (.cells #[.int .i64 0, .int .i64 0, .int .i64 0] 25)).alloc (.cells #[.bool false] 82))) := by
    show Below _ _ _
    (repeat' first | exact Below.refl _ _ | apply bl_alloc | apply bl_drewN | apply bl_drew | refine bl_trans ?_ (by assumption) | refine bl_set ?_ (by first | omega | (simp <;> omega)) _)
  have HR : Hid (Room ((((w.alloc (.cells #[.int .i64 a.x.re, .int .i64 a.x.im, .int .i64 a.x.den, .int .i64 a.y.re, .int .i64 a.y.im, .int .i64 a.y.den] 37)).alloc (.cells #[.int .i64 b.x.re, .int .i64 b.x.im, .int .i64 b.x.den, .int .i64 b.y.re, .int .i64 b.y.im, .int .i64 b.y.den] 37)).alloc (.cells #[.int .i64 0, .int .i64 0, .int .i64 0] 25)).alloc (.cells #[.bool false] 82)) (w.heap.size + 1 + 1) 1) := by
    show Room _ _ _
    exact (Room.new' (by simp) rfl).alloc (by simp) _
  have hsc : ((((w.alloc (.cells #[.int .i64 a.x.re, .int .i64 a.x.im, .int .i64 a.x.den, .int .i64 a.y.re, .int .i64 a.y.im, .int .i64 a.y.den] 37)).alloc (.cells #[.int .i64 b.x.re, .int .i64 b.x.im, .int .i64 b.x.den, .int .i64 b.y.re, .int .i64 b.y.im, .int .i64 b.y.den] 37)).alloc (.cells #[.int .i64 0, .int .i64 0, .int .i64 0] 25)).alloc (.cells #[.bool false] 82)).cell? ⟨w.heap.size + 1 + 1 + 1, 0, none⟩ = some (.bool false) := by simp [go_sem]
  have hsf : ((((w.alloc (.cells #[.int .i64 a.x.re, .int .i64 a.x.im, .int .i64 a.x.den, .int .i64 a.y.re, .int .i64 a.y.im, .int .i64 a.y.den] 37)).alloc (.cells #[.int .i64 b.x.re, .int .i64 b.x.im, .int .i64 b.x.den, .int .i64 b.y.re, .int .i64 b.y.im, .int .i64 b.y.den] 37)).alloc (.cells #[.int .i64 0, .int .i64 0, .int .i64 0] 25)).alloc (.cells #[.bool false] 82)).frozen? ⟨w.heap.size + 1 + 1 + 1, 0, none⟩ = false := by simp [go_sem]
  go_enter Tryd.func45, Tryd.ntmps45
  go_wp2_with fail
  refine (ijv_b hA  _).mono ?_
  rintro e w1 ⟨rfl, hb⟩
  have HR := Lib.hid (HR.out.below hb (by first | omega | (simp <;> omega)))
  have HB := Lib.hid (show Below w.heap.size w w1 from HB.out.trans (hb.mono HB.out.size))
  have hsc := (hb.cell (p := ⟨w.heap.size + 1 + 1 + 1, 0, none⟩) (by first | (show _ < _; omega) | (simp <;> omega))).trans hsc
  have hsf := (hb.frozen (p := ⟨w.heap.size + 1 + 1 + 1, 0, none⟩) (by first | (show _ < _; omega) | (simp <;> omega))).trans hsf
  obtain ⟨hc, hf, hz⟩ := bcellk (B := w.heap.size + 1 + 1 + 1 + 1) hb (by first | omega | (simp <;> omega))
  clear hb
  go_wp2_with fail
  refine (ijv_any b  _).mono ?_
  rintro e w1 ⟨rfl, hb⟩
  have HR := Lib.hid (HR.out.below hb (by first | omega | (simp <;> omega)))
  have HB := Lib.hid (show Below w.heap.size w w1 from HB.out.trans (hb.mono HB.out.size))
  have hsc := (hb.cell (p := ⟨w.heap.size + 1 + 1 + 1, 0, none⟩) (by first | (show _ < _; omega) | (simp <;> omega))).trans hsc
  have hsf := (hb.frozen (p := ⟨w.heap.size + 1 + 1 + 1, 0, none⟩) (by first | (show _ < _; omega) | (simp <;> omega))).trans hsf
  obtain ⟨hc, hf, hz⟩ := bcellk (B := w.heap.size + 1 + 1 + 1 + 1) hb (by first | omega | (simp <;> omega))
  clear hb
  go_wp2_with fail
  refine (need_any (w.heap.size + 1 + 1 + 1) false ((jv b)) w1 (by omega) hsc hsf).mono ?_
  rintro e w2 ho
  obtain ⟨rfl, hs⟩ := ho.fn
  have HR := Lib.hid (HR.out.sm hs (by first | omega | (simp <;> omega)) (by omega))
  have HB := Lib.hid (show Below w.heap.size w _ from hs.own HB.out (by omega))
  have hc0 := hs.atc (w.heap.size) (by first | omega | (simp <;> omega)) (by omega)
  have hc1 := hs.atc (w.heap.size + 1) (by first | omega | (simp <;> omega)) (by omega)
  have hcr := hs.atc (w.heap.size + 1 + 1) (by first | omega | (simp <;> omega)) (by omega)
  have hfr := hs.atf (w.heap.size + 1 + 1) (by first | omega | (simp <;> omega)) (by omega)
  have hz : w.heap.size + 1 + 1 + 1 + 1 ≤ _ := Nat.le_trans (by first | omega | (simp <;> omega)) hs.size
  have hsc := hs.cell
  have hsf := hs.free
  clear ho hs
  go_wp2
  have hsc : w2.drew.cell? ⟨w.heap.size + 1 + 1 + 1, 0, none⟩ = _ := hsc
  have hsf : w2.drew.frozen? ⟨w.heap.size + 1 + 1 + 1, 0, none⟩ = _ := hsf
  have HB : Hid (Below w.heap.size w w2.drew) := HB.out.drew
  have HR : Hid (Room w2.drew (w.heap.size + 1 + 1) 1) := HR.out
  go_region_held3 (fun w' => w'.cell? ⟨w.heap.size, 0, none⟩ = some (.int .i64 a.x.re) ∧ w'.cell? ⟨w.heap.size, 1, none⟩ = some (.int .i64 a.x.im) ∧ w'.cell? ⟨w.heap.size, 2, none⟩ = some (.int .i64 a.x.den) ∧ w'.cell? ⟨w.heap.size, 3, none⟩ = some (.int .i64 a.y.re) ∧ w'.cell? ⟨w.heap.size, 4, none⟩ = some (.int .i64 a.y.im) ∧ w'.cell? ⟨w.heap.size, 5, none⟩ = some (.int .i64 a.y.den) ∧ w'.cell? ⟨w.heap.size + 1, 0, none⟩ = some (.int .i64 b.x.re) ∧ w'.cell? ⟨w.heap.size + 1, 1, none⟩ = some (.int .i64 b.x.im) ∧ w'.cell? ⟨w.heap.size + 1, 2, none⟩ = some (.int .i64 b.x.den) ∧ w'.cell? ⟨w.heap.size + 1, 3, none⟩ = some (.int .i64 b.y.re) ∧ w'.cell? ⟨w.heap.size + 1, 4, none⟩ = some (.int .i64 b.y.im) ∧ w'.cell? ⟨w.heap.size + 1, 5, none⟩ = some (.int .i64 b.y.den))
    (first | go_keep | (simp [*]; done))
    (first
      | (go_at_call 57; (with_reducible refine (smirror_any _ _ _ _ (by first | omega | (simp <;> omega)) hsc hsf).mono ?_); rintro e w3 ho; obtain ⟨rfl, hs⟩ := ho.fn; have HR := Lib.hid (HR.out.sm hs (by first | omega | (simp <;> omega)) (by omega)); have HB := Lib.hid (show Below w.heap.size w _ from hs.own HB.out (by omega)); have hc0 := hs.atc (w.heap.size) (by first | omega | (simp <;> omega)) (by omega); have hc1 := hs.atc (w.heap.size + 1) (by first | omega | (simp <;> omega)) (by omega); have hcr := hs.atc (w.heap.size + 1 + 1) (by first | omega | (simp <;> omega)) (by omega); have hfr := hs.atf (w.heap.size + 1 + 1) (by first | omega | (simp <;> omega)) (by omega); have hz : w.heap.size + 1 + 1 + 1 + 1 ≤ _ := Nat.le_trans (by first | omega | (simp <;> omega)) hs.size; have hsc := hs.cell; have hsf := hs.free; clear ho hs)
      | (go_at_call 56; (with_reducible refine (stimes_any _ _ _ _ _ (by first | omega | (simp <;> omega)) hsc hsf).mono ?_); rintro e w3 ho; obtain ⟨rfl, hs⟩ := ho.fn; have HR := Lib.hid (HR.out.sm hs (by first | omega | (simp <;> omega)) (by omega)); have HB := Lib.hid (show Below w.heap.size w _ from hs.own HB.out (by omega)); have hc0 := hs.atc (w.heap.size) (by first | omega | (simp <;> omega)) (by omega); have hc1 := hs.atc (w.heap.size + 1) (by first | omega | (simp <;> omega)) (by omega); have hcr := hs.atc (w.heap.size + 1 + 1) (by first | omega | (simp <;> omega)) (by omega); have hfr := hs.atf (w.heap.size + 1 + 1) (by first | omega | (simp <;> omega)) (by omega); have hz : w.heap.size + 1 + 1 + 1 + 1 ≤ _ := Nat.le_trans (by first | omega | (simp <;> omega)) hs.size; have hsc := hs.cell; have hsf := hs.free; clear ho hs)
      | (go_at_call 59; (with_reducible refine (sadd_any _ _ _ _ _ (by first | omega | (simp <;> omega)) hsc hsf).mono ?_); rintro e w3 ho; obtain ⟨rfl, hs⟩ := ho.fn; have HR := Lib.hid (HR.out.sm hs (by first | omega | (simp <;> omega)) (by omega)); have HB := Lib.hid (show Below w.heap.size w _ from hs.own HB.out (by omega)); have hc0 := hs.atc (w.heap.size) (by first | omega | (simp <;> omega)) (by omega); have hc1 := hs.atc (w.heap.size + 1) (by first | omega | (simp <;> omega)) (by omega); have hcr := hs.atc (w.heap.size + 1 + 1) (by first | omega | (simp <;> omega)) (by omega); have hfr := hs.atf (w.heap.size + 1 + 1) (by first | omega | (simp <;> omega)) (by omega); have hz : w.heap.size + 1 + 1 + 1 + 1 ≤ _ := Nat.le_trans (by first | omega | (simp <;> omega)) hs.size; have hsc := hs.cell; have hsf := hs.free; clear ho hs)
      | (go_at_call 73; (with_reducible refine (gotFrac_no (w.heap.size + 1 + 1 + 1) (fAdd (fTimes a.x (fMirror b.x).1).1 (fTimes a.y (fMirror b.y).1).1).1 _ (by omega) (hsc.trans (congrArg (fun x => some (Value.bool x)) HE.out))).mono ?_); rintro e w4 ⟨rfl, hb⟩; have HR := Lib.hid (HR.out.below hb (by omega)); have HB := Lib.hid (show Below w.heap.size w w4 from HB.out.trans (hb.mono HB.out.size)); have hc0 := fun o => hb.cell (p := ⟨w.heap.size, o, none⟩) (by show w.heap.size < _; omega); have hc1 := fun o => hb.cell (p := ⟨w.heap.size + 1, o, none⟩) (by show w.heap.size + 1 < _; omega); have hcr := fun o => hb.cell (p := ⟨w.heap.size + 1 + 1, o, none⟩) (by show w.heap.size + 1 + 1 < _; omega); have hfr := fun o => hb.frozen (p := ⟨w.heap.size + 1 + 1, o, none⟩) (by show w.heap.size + 1 + 1 < _; omega); clear hb))
  go_wp2
  refine bodyPost_ret (v := .tuple #[.agg #[.int .i64 0, .int .i64 0, .int .i64 0], .bool false]) ?_ rfl ?_
  · exact Eq.trans (results_cell_mid2 rfl _ _ (w.heap.size + 1 + 1) [.int .i64 0, .int .i64 0, .int .i64 0] _ (by rfl) (World.rangeAt_setCells_same w4 (w.heap.size + 1 + 1) 0 [.int .i64 0, .int .i64 0, .int .i64 0] HR.out.there) Tryd.underlying25 rfl (by kernel_rfl)) rfl
  · exact FrOut.no (gt_no HG.out) (setCells_below (w.heap.size + 1 + 1) [.int .i64 0, .int .i64 0, .int .i64 0] 0 HB.out (by omega))
set_option maxRecDepth 100000 in
set_option maxHeartbeats 8000000 in
theorem ijinT_yes (a : J2) (b : J2) (hA : jv a = true) (hg : (jInI a b).2 = true) (w : World) :
    Calls Tryd.prog 45 #[.agg #[.int .i64 a.x.re, .int .i64 a.x.im, .int .i64 a.x.den, .int .i64 a.y.re, .int .i64 a.y.im, .int .i64 a.y.den], .agg #[.int .i64 b.x.re, .int .i64 b.x.im, .int .i64 b.x.den, .int .i64 b.y.re, .int .i64 b.y.im, .int .i64 b.y.den]] w (FrOut (jInI a b) w) := by
  have HE := Lib.hid ((ends (gt_end _ _ _).1).2 hg)
  have hE := HE.out
  clear HE
  (try unfold eJin at hE)
  rw [hA] at hE
  simp only [Bool.true_and] at hE
  have HE := Lib.hid hE
  clear hE
  have HV := Lib.hid ((gt_end _ _ _).2 hg)
  have HG := Lib.hid hg; clear hg
  have nn0 : ¬ w.heap.size + 1 + 1 = w.heap.size := by omega
  have nm0 : ¬ w.heap.size = w.heap.size + 1 + 1 := by omega
  have nn1 : ¬ w.heap.size + 1 + 1 = w.heap.size + 1 := by omega
  have nm1 : ¬ w.heap.size + 1 = w.heap.size + 1 + 1 := by omega
  have HB : Hid (Below w.heap.size w ((((w.alloc (.cells #[.int .i64 a.x.re, .int .i64 a.x.im, .int .i64 a.x.den, .int .i64 a.y.re, .int .i64 a.y.im, .int .i64 a.y.den] 37)).alloc (.cells #[.int .i64 b.x.re, .int .i64 b.x.im, .int .i64 b.x.den, .int .i64 b.y.re, .int .i64 b.y.im, .int .i64 b.y.den] 37)).alloc (.cells #[.int .i64 0, .int .i64 0, .int .i64 0] 25)).alloc (.cells #[.bool false] 82))) := by
    show Below _ _ _
    (repeat' first | exact Below.refl _ _ | apply bl_alloc | apply bl_drewN | apply bl_drew | refine bl_trans ?_ (by assumption) | refine bl_set ?_ (by first | omega | (simp <;> omega)) _)
  have HR : Hid (Room ((((w.alloc (.cells #[.int .i64 a.x.re, .int .i64 a.x.im, .int .i64 a.x.den, .int .i64 a.y.re, .int .i64 a.y.im, .int .i64 a.y.den] 37)).alloc (.cells #[.int .i64 b.x.re, .int .i64 b.x.im, .int .i64 b.x.den, .int .i64 b.y.re, .int .i64 b.y.im, .int .i64 b.y.den] 37)).alloc (.cells #[.int .i64 0, .int .i64 0, .int .i64 0] 25)).alloc (.cells #[.bool false] 82)) (w.heap.size + 1 + 1) 1) := by
    show Room _ _ _
    exact (Room.new' (by simp) rfl).alloc (by simp) _
  have hsc : ((((w.alloc (.cells #[.int .i64 a.x.re, .int .i64 a.x.im, .int .i64 a.x.den, .int .i64 a.y.re, .int .i64 a.y.im, .int .i64 a.y.den] 37)).alloc (.cells #[.int .i64 b.x.re, .int .i64 b.x.im, .int .i64 b.x.den, .int .i64 b.y.re, .int .i64 b.y.im, .int .i64 b.y.den] 37)).alloc (.cells #[.int .i64 0, .int .i64 0, .int .i64 0] 25)).alloc (.cells #[.bool false] 82)).cell? ⟨w.heap.size + 1 + 1 + 1, 0, none⟩ = some (.bool false) := by simp [go_sem]
  have hsf : ((((w.alloc (.cells #[.int .i64 a.x.re, .int .i64 a.x.im, .int .i64 a.x.den, .int .i64 a.y.re, .int .i64 a.y.im, .int .i64 a.y.den] 37)).alloc (.cells #[.int .i64 b.x.re, .int .i64 b.x.im, .int .i64 b.x.den, .int .i64 b.y.re, .int .i64 b.y.im, .int .i64 b.y.den] 37)).alloc (.cells #[.int .i64 0, .int .i64 0, .int .i64 0] 25)).alloc (.cells #[.bool false] 82)).frozen? ⟨w.heap.size + 1 + 1 + 1, 0, none⟩ = false := by simp [go_sem]
  go_enter Tryd.func45, Tryd.ntmps45
  go_wp2_with fail
  refine (ijv_b hA  _).mono ?_
  rintro e w1 ⟨rfl, hb⟩
  have HR := Lib.hid (HR.out.below hb (by first | omega | (simp <;> omega)))
  have HB := Lib.hid (show Below w.heap.size w w1 from HB.out.trans (hb.mono HB.out.size))
  have hsc := (hb.cell (p := ⟨w.heap.size + 1 + 1 + 1, 0, none⟩) (by first | (show _ < _; omega) | (simp <;> omega))).trans hsc
  have hsf := (hb.frozen (p := ⟨w.heap.size + 1 + 1 + 1, 0, none⟩) (by first | (show _ < _; omega) | (simp <;> omega))).trans hsf
  obtain ⟨hc, hf, hz⟩ := bcellk (B := w.heap.size + 1 + 1 + 1 + 1) hb (by first | omega | (simp <;> omega))
  clear hb
  go_wp2_with fail
  refine (ijv_any b  _).mono ?_
  rintro e w1 ⟨rfl, hb⟩
  have HR := Lib.hid (HR.out.below hb (by first | omega | (simp <;> omega)))
  have HB := Lib.hid (show Below w.heap.size w w1 from HB.out.trans (hb.mono HB.out.size))
  have hsc := (hb.cell (p := ⟨w.heap.size + 1 + 1 + 1, 0, none⟩) (by first | (show _ < _; omega) | (simp <;> omega))).trans hsc
  have hsf := (hb.frozen (p := ⟨w.heap.size + 1 + 1 + 1, 0, none⟩) (by first | (show _ < _; omega) | (simp <;> omega))).trans hsf
  obtain ⟨hc, hf, hz⟩ := bcellk (B := w.heap.size + 1 + 1 + 1 + 1) hb (by first | omega | (simp <;> omega))
  clear hb
  go_wp2_with fail
  refine (need_any (w.heap.size + 1 + 1 + 1) false ((jv b)) w1 (by omega) hsc hsf).mono ?_
  rintro e w2 ho
  obtain ⟨rfl, hs⟩ := ho.fn
  have HR := Lib.hid (HR.out.sm hs (by first | omega | (simp <;> omega)) (by omega))
  have HB := Lib.hid (show Below w.heap.size w _ from hs.own HB.out (by omega))
  have hc0 := hs.atc (w.heap.size) (by first | omega | (simp <;> omega)) (by omega)
  have hc1 := hs.atc (w.heap.size + 1) (by first | omega | (simp <;> omega)) (by omega)
  have hcr := hs.atc (w.heap.size + 1 + 1) (by first | omega | (simp <;> omega)) (by omega)
  have hfr := hs.atf (w.heap.size + 1 + 1) (by first | omega | (simp <;> omega)) (by omega)
  have hz : w.heap.size + 1 + 1 + 1 + 1 ≤ _ := Nat.le_trans (by first | omega | (simp <;> omega)) hs.size
  have hsc := hs.cell
  have hsf := hs.free
  clear ho hs
  go_wp2
  have hsc : w2.drew.cell? ⟨w.heap.size + 1 + 1 + 1, 0, none⟩ = _ := hsc
  have hsf : w2.drew.frozen? ⟨w.heap.size + 1 + 1 + 1, 0, none⟩ = _ := hsf
  have HB : Hid (Below w.heap.size w w2.drew) := HB.out.drew
  have HR : Hid (Room w2.drew (w.heap.size + 1 + 1) 1) := HR.out
  go_region_held3 (fun w' => w'.cell? ⟨w.heap.size, 0, none⟩ = some (.int .i64 a.x.re) ∧ w'.cell? ⟨w.heap.size, 1, none⟩ = some (.int .i64 a.x.im) ∧ w'.cell? ⟨w.heap.size, 2, none⟩ = some (.int .i64 a.x.den) ∧ w'.cell? ⟨w.heap.size, 3, none⟩ = some (.int .i64 a.y.re) ∧ w'.cell? ⟨w.heap.size, 4, none⟩ = some (.int .i64 a.y.im) ∧ w'.cell? ⟨w.heap.size, 5, none⟩ = some (.int .i64 a.y.den) ∧ w'.cell? ⟨w.heap.size + 1, 0, none⟩ = some (.int .i64 b.x.re) ∧ w'.cell? ⟨w.heap.size + 1, 1, none⟩ = some (.int .i64 b.x.im) ∧ w'.cell? ⟨w.heap.size + 1, 2, none⟩ = some (.int .i64 b.x.den) ∧ w'.cell? ⟨w.heap.size + 1, 3, none⟩ = some (.int .i64 b.y.re) ∧ w'.cell? ⟨w.heap.size + 1, 4, none⟩ = some (.int .i64 b.y.im) ∧ w'.cell? ⟨w.heap.size + 1, 5, none⟩ = some (.int .i64 b.y.den))
    (first | go_keep | (simp [*]; done))
    (first
      | (go_at_call 57; (with_reducible refine (smirror_any _ _ _ _ (by first | omega | (simp <;> omega)) hsc hsf).mono ?_); rintro e w3 ho; obtain ⟨rfl, hs⟩ := ho.fn; have HR := Lib.hid (HR.out.sm hs (by first | omega | (simp <;> omega)) (by omega)); have HB := Lib.hid (show Below w.heap.size w _ from hs.own HB.out (by omega)); have hc0 := hs.atc (w.heap.size) (by first | omega | (simp <;> omega)) (by omega); have hc1 := hs.atc (w.heap.size + 1) (by first | omega | (simp <;> omega)) (by omega); have hcr := hs.atc (w.heap.size + 1 + 1) (by first | omega | (simp <;> omega)) (by omega); have hfr := hs.atf (w.heap.size + 1 + 1) (by first | omega | (simp <;> omega)) (by omega); have hz : w.heap.size + 1 + 1 + 1 + 1 ≤ _ := Nat.le_trans (by first | omega | (simp <;> omega)) hs.size; have hsc := hs.cell; have hsf := hs.free; clear ho hs)
      | (go_at_call 56; (with_reducible refine (stimes_any _ _ _ _ _ (by first | omega | (simp <;> omega)) hsc hsf).mono ?_); rintro e w3 ho; obtain ⟨rfl, hs⟩ := ho.fn; have HR := Lib.hid (HR.out.sm hs (by first | omega | (simp <;> omega)) (by omega)); have HB := Lib.hid (show Below w.heap.size w _ from hs.own HB.out (by omega)); have hc0 := hs.atc (w.heap.size) (by first | omega | (simp <;> omega)) (by omega); have hc1 := hs.atc (w.heap.size + 1) (by first | omega | (simp <;> omega)) (by omega); have hcr := hs.atc (w.heap.size + 1 + 1) (by first | omega | (simp <;> omega)) (by omega); have hfr := hs.atf (w.heap.size + 1 + 1) (by first | omega | (simp <;> omega)) (by omega); have hz : w.heap.size + 1 + 1 + 1 + 1 ≤ _ := Nat.le_trans (by first | omega | (simp <;> omega)) hs.size; have hsc := hs.cell; have hsf := hs.free; clear ho hs)
      | (go_at_call 59; (with_reducible refine (sadd_any _ _ _ _ _ (by first | omega | (simp <;> omega)) hsc hsf).mono ?_); rintro e w3 ho; obtain ⟨rfl, hs⟩ := ho.fn; have HR := Lib.hid (HR.out.sm hs (by first | omega | (simp <;> omega)) (by omega)); have HB := Lib.hid (show Below w.heap.size w _ from hs.own HB.out (by omega)); have hc0 := hs.atc (w.heap.size) (by first | omega | (simp <;> omega)) (by omega); have hc1 := hs.atc (w.heap.size + 1) (by first | omega | (simp <;> omega)) (by omega); have hcr := hs.atc (w.heap.size + 1 + 1) (by first | omega | (simp <;> omega)) (by omega); have hfr := hs.atf (w.heap.size + 1 + 1) (by first | omega | (simp <;> omega)) (by omega); have hz : w.heap.size + 1 + 1 + 1 + 1 ≤ _ := Nat.le_trans (by first | omega | (simp <;> omega)) hs.size; have hsc := hs.cell; have hsf := hs.free; clear ho hs)
      | (go_at_call 73; (with_reducible refine (gotFrac_yes (w.heap.size + 1 + 1 + 1) (fAdd (fTimes a.x (fMirror b.x).1).1 (fTimes a.y (fMirror b.y).1).1).1 _ (by omega) (hsc.trans (congrArg (fun x => some (Value.bool x)) HE.out))).mono ?_); rintro e w4 ⟨rfl, hb⟩; have HR := Lib.hid (HR.out.below hb (by omega)); have HB := Lib.hid (show Below w.heap.size w w4 from HB.out.trans (hb.mono HB.out.size)); have hc0 := fun o => hb.cell (p := ⟨w.heap.size, o, none⟩) (by show w.heap.size < _; omega); have hc1 := fun o => hb.cell (p := ⟨w.heap.size + 1, o, none⟩) (by show w.heap.size + 1 < _; omega); have hcr := fun o => hb.cell (p := ⟨w.heap.size + 1 + 1, o, none⟩) (by show w.heap.size + 1 + 1 < _; omega); have hfr := fun o => hb.frozen (p := ⟨w.heap.size + 1 + 1, o, none⟩) (by show w.heap.size + 1 + 1 < _; omega); clear hb))
  go_wp2
  refine bodyPost_ret (v := .tuple #[.agg #[.int .i64 ((fAdd (fTimes a.x (fMirror b.x).1).1 (fTimes a.y (fMirror b.y).1).1).1).re, .int .i64 ((fAdd (fTimes a.x (fMirror b.x).1).1 (fTimes a.y (fMirror b.y).1).1).1).im, .int .i64 ((fAdd (fTimes a.x (fMirror b.x).1).1 (fTimes a.y (fMirror b.y).1).1).1).den], .bool true]) ?_ rfl ?_
  · exact Eq.trans (results_cell_mid2 rfl _ _ (w.heap.size + 1 + 1) [.int .i64 ((fAdd (fTimes a.x (fMirror b.x).1).1 (fTimes a.y (fMirror b.y).1).1).1).re, .int .i64 ((fAdd (fTimes a.x (fMirror b.x).1).1 (fTimes a.y (fMirror b.y).1).1).1).im, .int .i64 ((fAdd (fTimes a.x (fMirror b.x).1).1 (fTimes a.y (fMirror b.y).1).1).1).den] _ (by rfl) (World.rangeAt_setCells_same w4 (w.heap.size + 1 + 1) 0 [.int .i64 ((fAdd (fTimes a.x (fMirror b.x).1).1 (fTimes a.y (fMirror b.y).1).1).1).re, .int .i64 ((fAdd (fTimes a.x (fMirror b.x).1).1 (fTimes a.y (fMirror b.y).1).1).1).im, .int .i64 ((fAdd (fTimes a.x (fMirror b.x).1).1 (fTimes a.y (fMirror b.y).1).1).1).den] HR.out.there) Tryd.underlying25 rfl (by kernel_rfl)) rfl
  · exact FrOut.yes (f := (fAdd (fTimes a.x (fMirror b.x).1).1 (fTimes a.y (fMirror b.y).1).1).1) HG.out HV.out (setCells_below (w.heap.size + 1 + 1) [.int .i64 ((fAdd (fTimes a.x (fMirror b.x).1).1 (fTimes a.y (fMirror b.y).1).1).1).re, .int .i64 ((fAdd (fTimes a.x (fMirror b.x).1).1 (fTimes a.y (fMirror b.y).1).1).1).im, .int .i64 ((fAdd (fTimes a.x (fMirror b.x).1).1 (fTimes a.y (fMirror b.y).1).1).1).den] 0 HB.out (by omega))
theorem ijin_any (a : J2) (b : J2) (w : World) : Calls Tryd.prog 45 #[.agg #[.int .i64 a.x.re, .int .i64 a.x.im, .int .i64 a.x.den, .int .i64 a.y.re, .int .i64 a.y.im, .int .i64 a.y.den], .agg #[.int .i64 b.x.re, .int .i64 b.x.im, .int .i64 b.x.den, .int .i64 b.y.re, .int .i64 b.y.im, .int .i64 b.y.den]] w (FrOut (jInI a b) w) := by
  cases hA : jv a
  · cases h : (jInI a b).2
    · exact ijinF_no a b hA h w
    · exfalso
      have hE := (ends (gt_end _ _ _).1).2 h
      (try unfold eJin at hE)
      rw [hA] at hE
      simp at hE
  · cases h : (jInI a b).2
    · exact ijinT_no a b hA h w
    · exact ijinT_yes a b hA h w
theorem ijin (a : J2) (b : J2) (w : World) : Calls Tryd.prog 45 #[.agg #[.int .i64 a.x.re, .int .i64 a.x.im, .int .i64 a.x.den, .int .i64 a.y.re, .int .i64 a.y.im, .int .i64 a.y.den], .agg #[.int .i64 b.x.re, .int .i64 b.x.im, .int .i64 b.x.den, .int .i64 b.y.re, .int .i64 b.y.im, .int .i64 b.y.den]] w (FrOut (jIn a b) w) := jInI_eq a b ▸ ijin_any a b w
end Go.Proofs.YtcpdapfcbnhgaaaDoor
/- MA -/
namespace Go.Proofs.YtcpdapfcbnhgaaaDoor
open Go.RowKit Pol

theorem cells_row0 {w W : World} {P R nz B A X O : Nat} {v : Bool} {L : List (Nat × Nat × (Nat → Fr))} {m : M4} {x : J2} (hA : (A, 4, m.get) ∈ L) (hX : (X, 2, j2k x) ∈ L) (K : CK w P R nz v B L W) (hO : W.cell? ⟨O, 0, none⟩ = some (.pointer (some ⟨P, 0, none⟩))) : W.cell? ⟨A, 0, none⟩ = some (.int .i64 (m.get 0).re) ∧ W.cell? ⟨A, 1, none⟩ = some (.int .i64 (m.get 0).im) ∧ W.cell? ⟨A, 2, none⟩ = some (.int .i64 (m.get 0).den) ∧ W.cell? ⟨A, 3, none⟩ = some (.int .i64 (m.get 1).re) ∧ W.cell? ⟨A, 4, none⟩ = some (.int .i64 (m.get 1).im) ∧ W.cell? ⟨A, 5, none⟩ = some (.int .i64 (m.get 1).den) ∧ W.cell? ⟨X, 0, none⟩ = some (.int .i64 x.x.re) ∧ W.cell? ⟨X, 1, none⟩ = some (.int .i64 x.x.im) ∧ W.cell? ⟨X, 2, none⟩ = some (.int .i64 x.x.den) ∧ W.cell? ⟨X, 3, none⟩ = some (.int .i64 x.y.re) ∧ W.cell? ⟨X, 4, none⟩ = some (.int .i64 x.y.im) ∧ W.cell? ⟨X, 5, none⟩ = some (.int .i64 x.y.den) ∧ W.cell? ⟨O, 0, none⟩ = some (.pointer (some ⟨P, 0, none⟩)) :=
  ⟨((K.box (A, 4, m.get) hA).2.2 0 (show 0 < 4 by omega)).1, ((K.box (A, 4, m.get) hA).2.2 0 (show 0 < 4 by omega)).2.1, ((K.box (A, 4, m.get) hA).2.2 0 (show 0 < 4 by omega)).2.2, ((K.box (A, 4, m.get) hA).2.2 1 (show 1 < 4 by omega)).1, ((K.box (A, 4, m.get) hA).2.2 1 (show 1 < 4 by omega)).2.1, ((K.box (A, 4, m.get) hA).2.2 1 (show 1 < 4 by omega)).2.2, (K.box (X, 2, j2k x) hX).2.2.j6.1, (K.box (X, 2, j2k x) hX).2.2.j6.2.1, (K.box (X, 2, j2k x) hX).2.2.j6.2.2.1, (K.box (X, 2, j2k x) hX).2.2.j6.2.2.2.1, (K.box (X, 2, j2k x) hX).2.2.j6.2.2.2.2.1, (K.box (X, 2, j2k x) hX).2.2.j6.2.2.2.2.2, hO⟩
set_option maxRecDepth 100000 in
set_option maxHeartbeats 40000000 in
theorem row0_any {w W : World} {P R nz B A X O : Nat} {v : Bool} {L : List (Nat × Nat × (Nat → Fr))} {m : M4} {x : J2} (hA : (A, 4, m.get) ∈ L) (hX : (X, 2, j2k x) ∈ L) (hO : O < B) (hOP : O ≠ P) (K : CK w P R nz v B L W) (hc : W.cell? ⟨O, 0, none⟩ = some (.pointer (some ⟨P, 0, none⟩))) :
    Calls Tryd.prog 87 #[.int .i64 0, .pointer (some ⟨O, 0, none⟩), .pointer (some ⟨A, 0, none⟩), .pointer (some ⟨X, 0, none⟩)] W (fun e w' => e = .returned (.agg #[.int .i64 (fAdd (fTimes (m.get 0) x.x).1 (fTimes (m.get 1) x.y).1).1.re, .int .i64 (fAdd (fTimes (m.get 0) x.x).1 (fTimes (m.get 1) x.y).1).1.im, .int .i64 (fAdd (fTimes (m.get 0) x.x).1 (fTimes (m.get 1) x.y).1).1.den]) ∧ CK w P R nz (((v || !(fTimes (m.get 0) x.x).2) || !(fTimes (m.get 1) x.y).2) || !(fAdd (fTimes (m.get 0) x.x).1 (fTimes (m.get 1) x.y).1).2) B L w' ∧ w'.cell? ⟨O, 0, none⟩ = some (.pointer (some ⟨P, 0, none⟩)) ∧ W.heap.size ≤ w'.heap.size) := by
  have K0 := Lib.hid K
  have hB := K.hB
  have hPB := K.hP
  have hOW : W.heap.size ≠ O := by omega
  have sb0 : Hid ((W.alloc (.cells #[.int .i64 0, .int .i64 0, .int .i64 0] 25)).drew.cell? ⟨O, 0, none⟩ = some (.pointer (some ⟨P, 0, none⟩))) := (World.cell?_alloc_old _ _ _ (by show O ≠ W.heap.size; omega)).trans hc
  clear K hc
  have hwr0 : IntKind.i64.wrap (2 * 0) = 0 := rfl
  have hwr1 : IntKind.i64.wrap (0 + 1) = 1 := rfl
  have hwa : IntKind.i64.wrap 0 = 0 := rfl
  have hwb : IntKind.i64.wrap 1 = 1 := rfl
  have hwc : IntKind.i64.wrap 2 = 2 := rfl
  have hwd : IntKind.i64.wrap 3 = 3 := rfl
  go_enter Tryd.func87, Tryd.ntmps87
  go_wp2
  go_region_held3 (fun w' => w'.cell? ⟨A, 0, none⟩ = some (.int .i64 (m.get 0).re) ∧ w'.cell? ⟨A, 1, none⟩ = some (.int .i64 (m.get 0).im) ∧ w'.cell? ⟨A, 2, none⟩ = some (.int .i64 (m.get 0).den) ∧ w'.cell? ⟨A, 3, none⟩ = some (.int .i64 (m.get 1).re) ∧ w'.cell? ⟨A, 4, none⟩ = some (.int .i64 (m.get 1).im) ∧ w'.cell? ⟨A, 5, none⟩ = some (.int .i64 (m.get 1).den) ∧ w'.cell? ⟨X, 0, none⟩ = some (.int .i64 x.x.re) ∧ w'.cell? ⟨X, 1, none⟩ = some (.int .i64 x.x.im) ∧ w'.cell? ⟨X, 2, none⟩ = some (.int .i64 x.x.den) ∧ w'.cell? ⟨X, 3, none⟩ = some (.int .i64 x.y.re) ∧ w'.cell? ⟨X, 4, none⟩ = some (.int .i64 x.y.im) ∧ w'.cell? ⟨X, 5, none⟩ = some (.int .i64 x.y.den) ∧ w'.cell? ⟨O, 0, none⟩ = some (.pointer (some ⟨P, 0, none⟩))) (((try dsimp only); (first | (with_reducible refine cells_row0 (v := v) (w := w) (P := P) (R := R) (nz := nz) (B := B) (L := L) hA hX ?_ ?_; (focus ((repeat' first | (with_reducible exact K9.out) | (with_reducible exact K8.out) | (with_reducible exact K7.out) | (with_reducible exact K6.out) | (with_reducible exact K5.out) | (with_reducible exact K4.out) | (with_reducible exact K3.out) | (with_reducible exact K2.out) | (with_reducible exact K1.out) | (with_reducible exact K0.out) | (with_reducible refine CK.alloc ?_ _) | (with_reducible refine CK.drew ?_) | (with_reducible refine CK.setR ?_ _) | (with_reducible refine CK.set ?_ ?_ _; rotate_left; (focus (first | omega | (simp <;> omega))))); done)); (focus (with_reducible exact sb0.out))) | (with_reducible refine cells_row0 (v := (v || !(fTimes (m.get 0) x.x).2)) (w := w) (P := P) (R := R) (nz := nz) (B := B) (L := L) hA hX ?_ ?_; (focus ((repeat' first | (with_reducible exact K9.out) | (with_reducible exact K8.out) | (with_reducible exact K7.out) | (with_reducible exact K6.out) | (with_reducible exact K5.out) | (with_reducible exact K4.out) | (with_reducible exact K3.out) | (with_reducible exact K2.out) | (with_reducible exact K1.out) | (with_reducible exact K0.out) | (with_reducible refine CK.alloc ?_ _) | (with_reducible refine CK.drew ?_) | (with_reducible refine CK.setR ?_ _) | (with_reducible refine CK.set ?_ ?_ _; rotate_left; (focus (first | omega | (simp <;> omega))))); done)); (focus (with_reducible exact sb1.out))) | (with_reducible refine cells_row0 (v := ((v || !(fTimes (m.get 0) x.x).2) || !(fTimes (m.get 1) x.y).2)) (w := w) (P := P) (R := R) (nz := nz) (B := B) (L := L) hA hX ?_ ?_; (focus ((repeat' first | (with_reducible exact K9.out) | (with_reducible exact K8.out) | (with_reducible exact K7.out) | (with_reducible exact K6.out) | (with_reducible exact K5.out) | (with_reducible exact K4.out) | (with_reducible exact K3.out) | (with_reducible exact K2.out) | (with_reducible exact K1.out) | (with_reducible exact K0.out) | (with_reducible refine CK.alloc ?_ _) | (with_reducible refine CK.drew ?_) | (with_reducible refine CK.setR ?_ _) | (with_reducible refine CK.set ?_ ?_ _; rotate_left; (focus (first | omega | (simp <;> omega))))); done)); (focus (with_reducible exact sb2.out))) | (with_reducible refine cells_row0 (v := (((v || !(fTimes (m.get 0) x.x).2) || !(fTimes (m.get 1) x.y).2) || !(fAdd (fTimes (m.get 0) x.x).1 (fTimes (m.get 1) x.y).1).2)) (w := w) (P := P) (R := R) (nz := nz) (B := B) (L := L) hA hX ?_ ?_; (focus ((repeat' first | (with_reducible exact K9.out) | (with_reducible exact K8.out) | (with_reducible exact K7.out) | (with_reducible exact K6.out) | (with_reducible exact K5.out) | (with_reducible exact K4.out) | (with_reducible exact K3.out) | (with_reducible exact K2.out) | (with_reducible exact K1.out) | (with_reducible exact K0.out) | (with_reducible refine CK.alloc ?_ _) | (with_reducible refine CK.drew ?_) | (with_reducible refine CK.setR ?_ _) | (with_reducible refine CK.set ?_ ?_ _; rotate_left; (focus (first | omega | (simp <;> omega))))); done)); (focus (with_reducible exact sb3.out))) | (with_reducible refine cells_row0 (v := (((v || !(fTimes (m.get 0) x.x).2) || !(fTimes (m.get 1) x.y).2) || !(fAdd (fTimes (m.get 0) x.x).1 (fTimes (m.get 1) x.y).1).2)) (w := w) (P := P) (R := R) (nz := nz) (B := B) (L := L) hA hX ?_ ?_; (focus ((repeat' first | (with_reducible exact K9.out) | (with_reducible exact K8.out) | (with_reducible exact K7.out) | (with_reducible exact K6.out) | (with_reducible exact K5.out) | (with_reducible exact K4.out) | (with_reducible exact K3.out) | (with_reducible exact K2.out) | (with_reducible exact K1.out) | (with_reducible exact K0.out) | (with_reducible refine CK.alloc ?_ _) | (with_reducible refine CK.drew ?_) | (with_reducible refine CK.setR ?_ _) | (with_reducible refine CK.set ?_ ?_ _; rotate_left; (focus (first | omega | (simp <;> omega))))); done)); (focus (refine (far3 hOW).trans ?_; exact sb3.out)))))) (first | (go_at_call 59; (with_reducible refine Calls.mono (ck_call (v := ((v || !(fTimes (m.get 0) x.x).2) || !(fTimes (m.get 1) x.y).2)) (w := w) (P := P) (R := R) (nz := nz) (B := B) (L := L) ?_ (sadd_any P ((v || !(fTimes (m.get 0) x.x).2) || !(fTimes (m.get 1) x.y).2) (fTimes (m.get 0) x.x).1 (fTimes (m.get 1) x.y).1 _)) ?_); (focus ((repeat' first | (with_reducible exact K9.out) | (with_reducible exact K8.out) | (with_reducible exact K7.out) | (with_reducible exact K6.out) | (with_reducible exact K5.out) | (with_reducible exact K4.out) | (with_reducible exact K3.out) | (with_reducible exact K2.out) | (with_reducible exact K1.out) | (with_reducible exact K0.out) | (with_reducible refine CK.alloc ?_ _) | (with_reducible refine CK.drew ?_) | (with_reducible refine CK.setR ?_ _) | (with_reducible refine CK.set ?_ ?_ _; rotate_left; (focus (first | omega | (simp <;> omega))))); done)); rintro e w7 ⟨rfl, hs, hK⟩; have K3 := Lib.hid hK; have hz3 := hs.size; (try simp at hz3); have sb3 := Lib.hid ((hs.atc O (by first | omega | (simp <;> omega)) hOP 0).trans (sb2.out)); obtain ⟨BB, hBB, hcc, hff⟩ := hs.out2; (try simp at hBB); rcases Nat.lt_or_ge W.heap.size BB with hlt | hlt; rotate_left; (exfalso; omega); have yc := hcc W.heap.size hlt (by omega); have yf := hff W.heap.size hlt (by omega); clear hlt hBB hcc hff hs hK) | ((have hneed := K1.out; clear hneed); go_at_call 56; (with_reducible refine Calls.mono (ck_call (v := (v || !(fTimes (m.get 0) x.x).2)) (w := w) (P := P) (R := R) (nz := nz) (B := B) (L := L) ?_ (stimes_any P (v || !(fTimes (m.get 0) x.x).2) (m.get 1) x.y _)) ?_); (focus ((repeat' first | (with_reducible exact K9.out) | (with_reducible exact K8.out) | (with_reducible exact K7.out) | (with_reducible exact K6.out) | (with_reducible exact K5.out) | (with_reducible exact K4.out) | (with_reducible exact K3.out) | (with_reducible exact K2.out) | (with_reducible exact K1.out) | (with_reducible exact K0.out) | (with_reducible refine CK.alloc ?_ _) | (with_reducible refine CK.drew ?_) | (with_reducible refine CK.setR ?_ _) | (with_reducible refine CK.set ?_ ?_ _; rotate_left; (focus (first | omega | (simp <;> omega))))); done)); rintro e w6 ⟨rfl, hs, hK⟩; have K2 := Lib.hid hK; have hz2 := hs.size; (try simp at hz2); have sb2 := Lib.hid ((hs.atc O (by first | omega | (simp <;> omega)) hOP 0).trans (sb1.out)); obtain ⟨BB, hBB, hcc, hff⟩ := hs.out2; (try simp at hBB); rcases Nat.lt_or_ge W.heap.size BB with hlt | hlt; rotate_left; (exfalso; omega); have yc := hcc W.heap.size hlt (by omega); have yf := hff W.heap.size hlt (by omega); clear hlt hBB hcc hff hs hK) | (go_at_call 56; (with_reducible refine Calls.mono (ck_call (v := v) (w := w) (P := P) (R := R) (nz := nz) (B := B) (L := L) ?_ (stimes_any P v (m.get 0) x.x _)) ?_); (focus ((repeat' first | (with_reducible exact K9.out) | (with_reducible exact K8.out) | (with_reducible exact K7.out) | (with_reducible exact K6.out) | (with_reducible exact K5.out) | (with_reducible exact K4.out) | (with_reducible exact K3.out) | (with_reducible exact K2.out) | (with_reducible exact K1.out) | (with_reducible exact K0.out) | (with_reducible refine CK.alloc ?_ _) | (with_reducible refine CK.drew ?_) | (with_reducible refine CK.setR ?_ _) | (with_reducible refine CK.set ?_ ?_ _; rotate_left; (focus (first | omega | (simp <;> omega))))); done)); rintro e w5 ⟨rfl, hs, hK⟩; have K1 := Lib.hid hK; have hz1 := hs.size; (try simp at hz1); have sb1 := Lib.hid ((hs.atc O (by first | omega | (simp <;> omega)) hOP 0).trans (sb0.out)); obtain ⟨BB, hBB, hcc, hff⟩ := hs.out2; (try simp at hBB); rcases Nat.lt_or_ge W.heap.size BB with hlt | hlt; rotate_left; (exfalso; omega); have yc := hcc W.heap.size hlt (by omega); have yf := hff W.heap.size hlt (by omega); clear hlt hBB hcc hff hs hK))
  all_goals (have hWz : W.heap.size < w7.heap.size := by omega)
  all_goals go_wp2
  all_goals (refine bodyPost_ret (v := .agg #[.int .i64 (fAdd (fTimes (m.get 0) x.x).1 (fTimes (m.get 1) x.y).1).1.re, .int .i64 (fAdd (fTimes (m.get 0) x.x).1 (fTimes (m.get 1) x.y).1).1.im, .int .i64 (fAdd (fTimes (m.get 0) x.x).1 (fTimes (m.get 1) x.y).1).1.den]) (by simp [results, Tryd.results87, go_sem, *]) rfl ⟨rfl, ?_, ?_, ?_⟩)
  all_goals first | exact ((K3.out.set hB _).set hB _).set hB _ | exact (far3 hOW).trans sb3.out | (simp; omega)
theorem cells_row1 {w W : World} {P R nz B A X O : Nat} {v : Bool} {L : List (Nat × Nat × (Nat → Fr))} {m : M4} {x : J2} (hA : (A, 4, m.get) ∈ L) (hX : (X, 2, j2k x) ∈ L) (K : CK w P R nz v B L W) (hO : W.cell? ⟨O, 0, none⟩ = some (.pointer (some ⟨P, 0, none⟩))) : W.cell? ⟨A, 6, none⟩ = some (.int .i64 (m.get 2).re) ∧ W.cell? ⟨A, 7, none⟩ = some (.int .i64 (m.get 2).im) ∧ W.cell? ⟨A, 8, none⟩ = some (.int .i64 (m.get 2).den) ∧ W.cell? ⟨A, 9, none⟩ = some (.int .i64 (m.get 3).re) ∧ W.cell? ⟨A, 10, none⟩ = some (.int .i64 (m.get 3).im) ∧ W.cell? ⟨A, 11, none⟩ = some (.int .i64 (m.get 3).den) ∧ W.cell? ⟨X, 0, none⟩ = some (.int .i64 x.x.re) ∧ W.cell? ⟨X, 1, none⟩ = some (.int .i64 x.x.im) ∧ W.cell? ⟨X, 2, none⟩ = some (.int .i64 x.x.den) ∧ W.cell? ⟨X, 3, none⟩ = some (.int .i64 x.y.re) ∧ W.cell? ⟨X, 4, none⟩ = some (.int .i64 x.y.im) ∧ W.cell? ⟨X, 5, none⟩ = some (.int .i64 x.y.den) ∧ W.cell? ⟨O, 0, none⟩ = some (.pointer (some ⟨P, 0, none⟩)) :=
  ⟨((K.box (A, 4, m.get) hA).2.2 2 (show 2 < 4 by omega)).1, ((K.box (A, 4, m.get) hA).2.2 2 (show 2 < 4 by omega)).2.1, ((K.box (A, 4, m.get) hA).2.2 2 (show 2 < 4 by omega)).2.2, ((K.box (A, 4, m.get) hA).2.2 3 (show 3 < 4 by omega)).1, ((K.box (A, 4, m.get) hA).2.2 3 (show 3 < 4 by omega)).2.1, ((K.box (A, 4, m.get) hA).2.2 3 (show 3 < 4 by omega)).2.2, (K.box (X, 2, j2k x) hX).2.2.j6.1, (K.box (X, 2, j2k x) hX).2.2.j6.2.1, (K.box (X, 2, j2k x) hX).2.2.j6.2.2.1, (K.box (X, 2, j2k x) hX).2.2.j6.2.2.2.1, (K.box (X, 2, j2k x) hX).2.2.j6.2.2.2.2.1, (K.box (X, 2, j2k x) hX).2.2.j6.2.2.2.2.2, hO⟩
set_option maxRecDepth 100000 in
set_option maxHeartbeats 40000000 in
theorem row1_any {w W : World} {P R nz B A X O : Nat} {v : Bool} {L : List (Nat × Nat × (Nat → Fr))} {m : M4} {x : J2} (hA : (A, 4, m.get) ∈ L) (hX : (X, 2, j2k x) ∈ L) (hO : O < B) (hOP : O ≠ P) (K : CK w P R nz v B L W) (hc : W.cell? ⟨O, 0, none⟩ = some (.pointer (some ⟨P, 0, none⟩))) :
    Calls Tryd.prog 87 #[.int .i64 1, .pointer (some ⟨O, 0, none⟩), .pointer (some ⟨A, 0, none⟩), .pointer (some ⟨X, 0, none⟩)] W (fun e w' => e = .returned (.agg #[.int .i64 (fAdd (fTimes (m.get 2) x.x).1 (fTimes (m.get 3) x.y).1).1.re, .int .i64 (fAdd (fTimes (m.get 2) x.x).1 (fTimes (m.get 3) x.y).1).1.im, .int .i64 (fAdd (fTimes (m.get 2) x.x).1 (fTimes (m.get 3) x.y).1).1.den]) ∧ CK w P R nz (((v || !(fTimes (m.get 2) x.x).2) || !(fTimes (m.get 3) x.y).2) || !(fAdd (fTimes (m.get 2) x.x).1 (fTimes (m.get 3) x.y).1).2) B L w' ∧ w'.cell? ⟨O, 0, none⟩ = some (.pointer (some ⟨P, 0, none⟩)) ∧ W.heap.size ≤ w'.heap.size) := by
  have K0 := Lib.hid K
  have hB := K.hB
  have hPB := K.hP
  have hOW : W.heap.size ≠ O := by omega
  have sb0 : Hid ((W.alloc (.cells #[.int .i64 0, .int .i64 0, .int .i64 0] 25)).drew.cell? ⟨O, 0, none⟩ = some (.pointer (some ⟨P, 0, none⟩))) := (World.cell?_alloc_old _ _ _ (by show O ≠ W.heap.size; omega)).trans hc
  clear K hc
  have hwr0 : IntKind.i64.wrap (2 * 1) = 2 := rfl
  have hwr1 : IntKind.i64.wrap (2 + 1) = 3 := rfl
  have hwa : IntKind.i64.wrap 0 = 0 := rfl
  have hwb : IntKind.i64.wrap 1 = 1 := rfl
  have hwc : IntKind.i64.wrap 2 = 2 := rfl
  have hwd : IntKind.i64.wrap 3 = 3 := rfl
  go_enter Tryd.func87, Tryd.ntmps87
  go_wp2
  go_region_held3 (fun w' => w'.cell? ⟨A, 6, none⟩ = some (.int .i64 (m.get 2).re) ∧ w'.cell? ⟨A, 7, none⟩ = some (.int .i64 (m.get 2).im) ∧ w'.cell? ⟨A, 8, none⟩ = some (.int .i64 (m.get 2).den) ∧ w'.cell? ⟨A, 9, none⟩ = some (.int .i64 (m.get 3).re) ∧ w'.cell? ⟨A, 10, none⟩ = some (.int .i64 (m.get 3).im) ∧ w'.cell? ⟨A, 11, none⟩ = some (.int .i64 (m.get 3).den) ∧ w'.cell? ⟨X, 0, none⟩ = some (.int .i64 x.x.re) ∧ w'.cell? ⟨X, 1, none⟩ = some (.int .i64 x.x.im) ∧ w'.cell? ⟨X, 2, none⟩ = some (.int .i64 x.x.den) ∧ w'.cell? ⟨X, 3, none⟩ = some (.int .i64 x.y.re) ∧ w'.cell? ⟨X, 4, none⟩ = some (.int .i64 x.y.im) ∧ w'.cell? ⟨X, 5, none⟩ = some (.int .i64 x.y.den) ∧ w'.cell? ⟨O, 0, none⟩ = some (.pointer (some ⟨P, 0, none⟩))) (((try dsimp only); (first | (with_reducible refine cells_row1 (v := v) (w := w) (P := P) (R := R) (nz := nz) (B := B) (L := L) hA hX ?_ ?_; (focus ((repeat' first | (with_reducible exact K9.out) | (with_reducible exact K8.out) | (with_reducible exact K7.out) | (with_reducible exact K6.out) | (with_reducible exact K5.out) | (with_reducible exact K4.out) | (with_reducible exact K3.out) | (with_reducible exact K2.out) | (with_reducible exact K1.out) | (with_reducible exact K0.out) | (with_reducible refine CK.alloc ?_ _) | (with_reducible refine CK.drew ?_) | (with_reducible refine CK.setR ?_ _) | (with_reducible refine CK.set ?_ ?_ _; rotate_left; (focus (first | omega | (simp <;> omega))))); done)); (focus (with_reducible exact sb0.out))) | (with_reducible refine cells_row1 (v := (v || !(fTimes (m.get 2) x.x).2)) (w := w) (P := P) (R := R) (nz := nz) (B := B) (L := L) hA hX ?_ ?_; (focus ((repeat' first | (with_reducible exact K9.out) | (with_reducible exact K8.out) | (with_reducible exact K7.out) | (with_reducible exact K6.out) | (with_reducible exact K5.out) | (with_reducible exact K4.out) | (with_reducible exact K3.out) | (with_reducible exact K2.out) | (with_reducible exact K1.out) | (with_reducible exact K0.out) | (with_reducible refine CK.alloc ?_ _) | (with_reducible refine CK.drew ?_) | (with_reducible refine CK.setR ?_ _) | (with_reducible refine CK.set ?_ ?_ _; rotate_left; (focus (first | omega | (simp <;> omega))))); done)); (focus (with_reducible exact sb1.out))) | (with_reducible refine cells_row1 (v := ((v || !(fTimes (m.get 2) x.x).2) || !(fTimes (m.get 3) x.y).2)) (w := w) (P := P) (R := R) (nz := nz) (B := B) (L := L) hA hX ?_ ?_; (focus ((repeat' first | (with_reducible exact K9.out) | (with_reducible exact K8.out) | (with_reducible exact K7.out) | (with_reducible exact K6.out) | (with_reducible exact K5.out) | (with_reducible exact K4.out) | (with_reducible exact K3.out) | (with_reducible exact K2.out) | (with_reducible exact K1.out) | (with_reducible exact K0.out) | (with_reducible refine CK.alloc ?_ _) | (with_reducible refine CK.drew ?_) | (with_reducible refine CK.setR ?_ _) | (with_reducible refine CK.set ?_ ?_ _; rotate_left; (focus (first | omega | (simp <;> omega))))); done)); (focus (with_reducible exact sb2.out))) | (with_reducible refine cells_row1 (v := (((v || !(fTimes (m.get 2) x.x).2) || !(fTimes (m.get 3) x.y).2) || !(fAdd (fTimes (m.get 2) x.x).1 (fTimes (m.get 3) x.y).1).2)) (w := w) (P := P) (R := R) (nz := nz) (B := B) (L := L) hA hX ?_ ?_; (focus ((repeat' first | (with_reducible exact K9.out) | (with_reducible exact K8.out) | (with_reducible exact K7.out) | (with_reducible exact K6.out) | (with_reducible exact K5.out) | (with_reducible exact K4.out) | (with_reducible exact K3.out) | (with_reducible exact K2.out) | (with_reducible exact K1.out) | (with_reducible exact K0.out) | (with_reducible refine CK.alloc ?_ _) | (with_reducible refine CK.drew ?_) | (with_reducible refine CK.setR ?_ _) | (with_reducible refine CK.set ?_ ?_ _; rotate_left; (focus (first | omega | (simp <;> omega))))); done)); (focus (with_reducible exact sb3.out))) | (with_reducible refine cells_row1 (v := (((v || !(fTimes (m.get 2) x.x).2) || !(fTimes (m.get 3) x.y).2) || !(fAdd (fTimes (m.get 2) x.x).1 (fTimes (m.get 3) x.y).1).2)) (w := w) (P := P) (R := R) (nz := nz) (B := B) (L := L) hA hX ?_ ?_; (focus ((repeat' first | (with_reducible exact K9.out) | (with_reducible exact K8.out) | (with_reducible exact K7.out) | (with_reducible exact K6.out) | (with_reducible exact K5.out) | (with_reducible exact K4.out) | (with_reducible exact K3.out) | (with_reducible exact K2.out) | (with_reducible exact K1.out) | (with_reducible exact K0.out) | (with_reducible refine CK.alloc ?_ _) | (with_reducible refine CK.drew ?_) | (with_reducible refine CK.setR ?_ _) | (with_reducible refine CK.set ?_ ?_ _; rotate_left; (focus (first | omega | (simp <;> omega))))); done)); (focus (refine (far3 hOW).trans ?_; exact sb3.out)))))) (first | (go_at_call 59; (with_reducible refine Calls.mono (ck_call (v := ((v || !(fTimes (m.get 2) x.x).2) || !(fTimes (m.get 3) x.y).2)) (w := w) (P := P) (R := R) (nz := nz) (B := B) (L := L) ?_ (sadd_any P ((v || !(fTimes (m.get 2) x.x).2) || !(fTimes (m.get 3) x.y).2) (fTimes (m.get 2) x.x).1 (fTimes (m.get 3) x.y).1 _)) ?_); (focus ((repeat' first | (with_reducible exact K9.out) | (with_reducible exact K8.out) | (with_reducible exact K7.out) | (with_reducible exact K6.out) | (with_reducible exact K5.out) | (with_reducible exact K4.out) | (with_reducible exact K3.out) | (with_reducible exact K2.out) | (with_reducible exact K1.out) | (with_reducible exact K0.out) | (with_reducible refine CK.alloc ?_ _) | (with_reducible refine CK.drew ?_) | (with_reducible refine CK.setR ?_ _) | (with_reducible refine CK.set ?_ ?_ _; rotate_left; (focus (first | omega | (simp <;> omega))))); done)); rintro e w7 ⟨rfl, hs, hK⟩; have K3 := Lib.hid hK; have hz3 := hs.size; (try simp at hz3); have sb3 := Lib.hid ((hs.atc O (by first | omega | (simp <;> omega)) hOP 0).trans (sb2.out)); obtain ⟨BB, hBB, hcc, hff⟩ := hs.out2; (try simp at hBB); rcases Nat.lt_or_ge W.heap.size BB with hlt | hlt; rotate_left; (exfalso; omega); have yc := hcc W.heap.size hlt (by omega); have yf := hff W.heap.size hlt (by omega); clear hlt hBB hcc hff hs hK) | ((have hneed := K1.out; clear hneed); go_at_call 56; (with_reducible refine Calls.mono (ck_call (v := (v || !(fTimes (m.get 2) x.x).2)) (w := w) (P := P) (R := R) (nz := nz) (B := B) (L := L) ?_ (stimes_any P (v || !(fTimes (m.get 2) x.x).2) (m.get 3) x.y _)) ?_); (focus ((repeat' first | (with_reducible exact K9.out) | (with_reducible exact K8.out) | (with_reducible exact K7.out) | (with_reducible exact K6.out) | (with_reducible exact K5.out) | (with_reducible exact K4.out) | (with_reducible exact K3.out) | (with_reducible exact K2.out) | (with_reducible exact K1.out) | (with_reducible exact K0.out) | (with_reducible refine CK.alloc ?_ _) | (with_reducible refine CK.drew ?_) | (with_reducible refine CK.setR ?_ _) | (with_reducible refine CK.set ?_ ?_ _; rotate_left; (focus (first | omega | (simp <;> omega))))); done)); rintro e w6 ⟨rfl, hs, hK⟩; have K2 := Lib.hid hK; have hz2 := hs.size; (try simp at hz2); have sb2 := Lib.hid ((hs.atc O (by first | omega | (simp <;> omega)) hOP 0).trans (sb1.out)); obtain ⟨BB, hBB, hcc, hff⟩ := hs.out2; (try simp at hBB); rcases Nat.lt_or_ge W.heap.size BB with hlt | hlt; rotate_left; (exfalso; omega); have yc := hcc W.heap.size hlt (by omega); have yf := hff W.heap.size hlt (by omega); clear hlt hBB hcc hff hs hK) | (go_at_call 56; (with_reducible refine Calls.mono (ck_call (v := v) (w := w) (P := P) (R := R) (nz := nz) (B := B) (L := L) ?_ (stimes_any P v (m.get 2) x.x _)) ?_); (focus ((repeat' first | (with_reducible exact K9.out) | (with_reducible exact K8.out) | (with_reducible exact K7.out) | (with_reducible exact K6.out) | (with_reducible exact K5.out) | (with_reducible exact K4.out) | (with_reducible exact K3.out) | (with_reducible exact K2.out) | (with_reducible exact K1.out) | (with_reducible exact K0.out) | (with_reducible refine CK.alloc ?_ _) | (with_reducible refine CK.drew ?_) | (with_reducible refine CK.setR ?_ _) | (with_reducible refine CK.set ?_ ?_ _; rotate_left; (focus (first | omega | (simp <;> omega))))); done)); rintro e w5 ⟨rfl, hs, hK⟩; have K1 := Lib.hid hK; have hz1 := hs.size; (try simp at hz1); have sb1 := Lib.hid ((hs.atc O (by first | omega | (simp <;> omega)) hOP 0).trans (sb0.out)); obtain ⟨BB, hBB, hcc, hff⟩ := hs.out2; (try simp at hBB); rcases Nat.lt_or_ge W.heap.size BB with hlt | hlt; rotate_left; (exfalso; omega); have yc := hcc W.heap.size hlt (by omega); have yf := hff W.heap.size hlt (by omega); clear hlt hBB hcc hff hs hK))
  all_goals (have hWz : W.heap.size < w7.heap.size := by omega)
  all_goals go_wp2
  all_goals (refine bodyPost_ret (v := .agg #[.int .i64 (fAdd (fTimes (m.get 2) x.x).1 (fTimes (m.get 3) x.y).1).1.re, .int .i64 (fAdd (fTimes (m.get 2) x.x).1 (fTimes (m.get 3) x.y).1).1.im, .int .i64 (fAdd (fTimes (m.get 2) x.x).1 (fTimes (m.get 3) x.y).1).1.den]) (by simp [results, Tryd.results87, go_sem, *]) rfl ⟨rfl, ?_, ?_, ?_⟩)
  all_goals first | exact ((K3.out.set hB _).set hB _).set hB _ | exact (far3 hOW).trans sb3.out | (simp; omega)
end Go.Proofs.YtcpdapfcbnhgaaaDoor
/- MBN -/
namespace Go.Proofs.YtcpdapfcbnhgaaaDoor
open Go.RowKit Pol

theorem CK.grow {w W : World} {P R nz B B' : Nat} {v : Bool} {L : List (Nat × Nat × (Nat → Fr))} (K : CK w P R nz v B L W) (h : B ≤ B') (h2 : B' ≤ W.heap.size) : CK w P R nz v B' L W :=
  have h3 := K.hP
  have h4 := K.hR
  ⟨K.below, K.lo, by omega, by omega, K.nR, K.lR, h2, K.cell, K.free, K.room, fun e he => by
    obtain ⟨k1, k2, k3⟩ := K.box e he
    exact ⟨by omega, k2, k3⟩⟩
/-- The product, the program's way. -/
def mApI (m : M4) (x : J2) : J2 × Bool := gt j2z (((((((false || !(all4 vld m && jv x)) || !(fTimes (m.get 0) x.x).2) || !(fTimes (m.get 1) x.y).2) || !(fAdd (fTimes (m.get 0) x.x).1 (fTimes (m.get 1) x.y).1).2) || !(fTimes (m.get 2) x.x).2) || !(fTimes (m.get 3) x.y).2) || !(fAdd (fTimes (m.get 2) x.x).1 (fTimes (m.get 3) x.y).1).2) ⟨(fAdd (fTimes (m.get 0) x.x).1 (fTimes (m.get 1) x.y).1).1, (fAdd (fTimes (m.get 2) x.x).1 (fTimes (m.get 3) x.y).1).1⟩
set_option maxRecDepth 100000 in
set_option maxHeartbeats 40000000 in
theorem imap_any (m : M4) (x : J2) (hm : all4 vld m = true) (w : World) : Calls Tryd.prog 39 #[.agg #[.int .i64 m.a.re, .int .i64 m.a.im, .int .i64 m.a.den, .int .i64 m.b.re, .int .i64 m.b.im, .int .i64 m.b.den, .int .i64 m.c.re, .int .i64 m.c.im, .int .i64 m.c.den, .int .i64 m.d.re, .int .i64 m.d.im, .int .i64 m.d.den], .agg #[.int .i64 x.x.re, .int .i64 x.x.im, .int .i64 x.x.den, .int .i64 x.y.re, .int .i64 x.y.im, .int .i64 x.y.den]] w (J2Out (mApI m x) w) := by
  have hmf : ∀ (fn : Fn) (first cap : Array Value) (w : World), (Instr.makeFunc fn first cap).run Tryd.prog w = .ok (.func fn first cap) w := fun _ _ _ _ => rfl
  have K0 : Hid (CK w (w.heap.size + 1 + 1 + 1) (w.heap.size + 1 + 1) 2 false (w.heap.size + 1 + 1 + 1 + 1) [(w.heap.size, 4, m.get), (w.heap.size + 1, 2, j2k x)] ((((w.alloc (.cells #[.int .i64 m.a.re, .int .i64 m.a.im, .int .i64 m.a.den, .int .i64 m.b.re, .int .i64 m.b.im, .int .i64 m.b.den, .int .i64 m.c.re, .int .i64 m.c.im, .int .i64 m.c.den, .int .i64 m.d.re, .int .i64 m.d.im, .int .i64 m.d.den] 45)).alloc (.cells #[.int .i64 x.x.re, .int .i64 x.x.im, .int .i64 x.x.den, .int .i64 x.y.re, .int .i64 x.y.im, .int .i64 x.y.den] 37)).alloc (.cells #[.int .i64 0, .int .i64 0, .int .i64 0, .int .i64 0, .int .i64 0, .int .i64 0] 37)).alloc (.cells #[.bool false] 82))) := by
    show CK _ _ _ _ _ _ _ _
    refine ⟨by (repeat' first | exact Below.refl _ _ | apply bl_alloc | apply bl_drewN | apply bl_drew | refine bl_trans ?_ (by assumption) | refine bl_set ?_ (by first | omega | (simp <;> omega)) _), by omega, by omega, by omega, by omega, by omega, by simp, by simp [go_sem], by simp [go_sem], (Room.new' (by simp) rfl).alloc (by simp) _, fun e he => ?_⟩
    rcases List.mem_cons.1 he with rfl | he
    · exact ⟨by show w.heap.size < _; omega, ⟨by show w.heap.size ≠ _; omega, by show w.heap.size ≠ _; omega⟩, (((BoxAt.new _ _ _ _ _ (src4 m)).alloc (by simp) _).alloc (by simp) _).alloc (by simp) _⟩
    · obtain rfl := List.mem_singleton.1 he
      exact ⟨by show w.heap.size + 1 < _; omega, ⟨by show w.heap.size + 1 ≠ _; omega, by show w.heap.size + 1 ≠ _; omega⟩, ((BoxAt.new' (by simp) (srcJ x)).alloc (by simp) _).alloc (by simp) _⟩
  go_enter Tryd.func39, Tryd.ntmps39
  go_wp2_with fail
  refine (imatvalid_any m _).mono ?_
  rintro e w1 ⟨rfl, hb⟩
  rw [hm]
  have K0 := Lib.hid (K0.out.next hb)
  have hB1 := K0.out.hB
  have hc1 := (K0.out.box (w.heap.size + 1, 2, j2k x) (by simp)).2.2.j6
  clear hb
  go_wp2_with fail
  refine (ijv_any x _).mono ?_
  rintro e w2 ⟨rfl, hb⟩
  have K0 := Lib.hid (K0.out.next hb)
  clear hb hc1
  go_wp2_with fail
  refine (need_any (w.heap.size + 1 + 1 + 1) false (jv x) w2 (by have := K0.out.hB; omega) K0.out.cell K0.out.free).mono ?_
  rintro e w3 ho
  obtain ⟨rfl, hs⟩ := ho.fn
  have K0 := Lib.hid (K0.out.sm hs)
  have hB3 := K0.out.hB
  clear hs ho
  obtain ⟨V, hV⟩ : ∃ V, V = w3.alloc (.cells #[.pointer (some ⟨w.heap.size + 1 + 1 + 1, 0, none⟩)] 80) := ⟨_, rfl⟩
  have hVz : V.heap.size = w3.heap.size + 1 := by rw [hV]; simp
  have K0 : Hid (CK w (w.heap.size + 1 + 1 + 1) (w.heap.size + 1 + 1) 2 (false || !(jv x)) V.heap.size [(w.heap.size, 4, m.get), (w.heap.size + 1, 2, j2k x)] V) := by
    show CK _ _ _ _ _ _ _ _
    rw [hV]
    exact (K0.out.alloc _).grow (by simp; omega) (Nat.le_refl _)
  have sb0 : Hid (V.cell? ⟨w3.heap.size, 0, none⟩ = some (.pointer (some ⟨w.heap.size + 1 + 1 + 1, 0, none⟩))) := by show _ = _; rw [hV]; simp [go_sem]
  go_wp2
  rw [← hV]
  clear hV
  have K0 : Hid (CK w (w.heap.size + 1 + 1 + 1) (w.heap.size + 1 + 1) 2 (false || !(jv x)) V.heap.size [(w.heap.size, 4, m.get), (w.heap.size + 1, 2, j2k x)] V.drew) := K0.out.drew
  have sb0 : Hid (V.drew.cell? ⟨w3.heap.size, 0, none⟩ = some (.pointer (some ⟨w.heap.size + 1 + 1 + 1, 0, none⟩))) := sb0.out
  have hA : (w.heap.size, 4, m.get) ∈ [(w.heap.size, 4, m.get), (w.heap.size + 1, 2, j2k x)] := by simp
  have hX : (w.heap.size + 1, 2, j2k x) ∈ [(w.heap.size, 4, m.get), (w.heap.size + 1, 2, j2k x)] := by simp
  have hOb : w3.heap.size < V.heap.size := by omega
  have hOP : w3.heap.size ≠ w.heap.size + 1 + 1 + 1 := by omega
  have he : (((((((false || !(jv x)) || !(fTimes (m.get 0) x.x).2) || !(fTimes (m.get 1) x.y).2) || !(fAdd (fTimes (m.get 0) x.x).1 (fTimes (m.get 1) x.y).1).2) || !(fTimes (m.get 2) x.x).2) || !(fTimes (m.get 3) x.y).2) || !(fAdd (fTimes (m.get 2) x.x).1 (fTimes (m.get 3) x.y).1).2) = !(mApI m x).2 := by have := (gt_end j2z (((((((false || !(all4 vld m && jv x)) || !(fTimes (m.get 0) x.x).2) || !(fTimes (m.get 1) x.y).2) || !(fAdd (fTimes (m.get 0) x.x).1 (fTimes (m.get 1) x.y).1).2) || !(fTimes (m.get 2) x.x).2) || !(fTimes (m.get 3) x.y).2) || !(fAdd (fTimes (m.get 2) x.x).1 (fTimes (m.get 3) x.y).1).2) ⟨(fAdd (fTimes (m.get 0) x.x).1 (fTimes (m.get 1) x.y).1).1, (fAdd (fTimes (m.get 2) x.x).1 (fTimes (m.get 3) x.y).1).1⟩).1; rw [hm] at this; simp only [Bool.true_and] at this; rw [this]; unfold mApI; rw [hm]; simp only [Bool.true_and]
  have hx : (mApI m x).2 = true → (⟨(fAdd (fTimes (m.get 0) x.x).1 (fTimes (m.get 1) x.y).1).1, (fAdd (fTimes (m.get 2) x.x).1 (fTimes (m.get 3) x.y).1).1⟩ : J2) = (mApI m x).1 := (gt_end _ _ _).2
  have hno : (mApI m x).2 = false → mApI m x = (j2z, false) := gt_no
  cases hg : (mApI m x).2
  · have HE : Hid ((((((((false || !(jv x)) || !(fTimes (m.get 0) x.x).2) || !(fTimes (m.get 1) x.y).2) || !(fAdd (fTimes (m.get 0) x.x).1 (fTimes (m.get 1) x.y).1).2) || !(fTimes (m.get 2) x.x).2) || !(fTimes (m.get 3) x.y).2) || !(fAdd (fTimes (m.get 2) x.x).1 (fTimes (m.get 3) x.y).1).2) = true) := by show _ = _; rw [he, hg]; rfl
    have HG := Lib.hid (hno hg)
    clear he hx hno hg
    go_region_held3 (fun w' => w'.cell? ⟨w3.heap.size, 0, none⟩ = some (.pointer (some ⟨w.heap.size + 1 + 1 + 1, 0, none⟩))) (((try dsimp only); (repeat' first | (with_reducible exact sb3.out) | (with_reducible exact sb2.out) | (with_reducible exact sb1.out) | (with_reducible exact sb0.out) | (with_reducible refine (World.cell?_setCell_far _ _ _ _ ?_).trans ?_; (focus (show w.heap.size + 1 + 1 ≠ w3.heap.size; omega)))))) (first | ((have hneed := K1.out; clear hneed); go_at_call 87; (with_reducible refine Calls.mono (row1_any (m := m) (x := x) hA hX hOb hOP K1.out sb1.out) ?_); rintro e w6 ⟨rfl, hK, hc, hz⟩; have K2 := Lib.hid hK; have sb2 := Lib.hid hc; have hz2 := hz; clear hK hc hz) | (go_at_call 87; (with_reducible refine Calls.mono (row0_any (m := m) (x := x) hA hX hOb hOP K0.out sb0.out) ?_); rintro e w5 ⟨rfl, hK, hc, hz⟩; have K1 := Lib.hid hK; have sb1 := Lib.hid hc; have hz1 := hz; (try simp at hz1); clear hK hc hz) | (go_at_call 88; (with_reducible refine (gotJones_no (w.heap.size + 1 + 1 + 1) ⟨(fAdd (fTimes (m.get 0) x.x).1 (fTimes (m.get 1) x.y).1).1, (fAdd (fTimes (m.get 2) x.x).1 (fTimes (m.get 3) x.y).1).1⟩ _ (Nat.lt_of_lt_of_le K2.out.hP K2.out.hB) (K2.out.cell.trans (congrArg (fun x => some (Value.bool x)) HE.out))).mono ?_); rintro e w7 ⟨rfl, hb⟩; have K3 := Lib.hid (K2.out.next hb); have sb3 := Lib.hid ((hb.cell (p := ⟨w3.heap.size, 0, none⟩) (by show w3.heap.size < _; omega)).trans sb2.out); obtain ⟨yq0, eq0⟩ := Option.isSome_iff_exists.1 (K3.out.room 0 (by omega)).1; have fq0 := (K3.out.room 0 (by omega)).2; obtain ⟨yq1, eq1⟩ := Option.isSome_iff_exists.1 (K3.out.room 1 (by omega)).1; have fq1 := (K3.out.room 1 (by omega)).2; obtain ⟨yq2, eq2⟩ := Option.isSome_iff_exists.1 (K3.out.room 2 (by omega)).1; have fq2 := (K3.out.room 2 (by omega)).2; obtain ⟨yq3, eq3⟩ := Option.isSome_iff_exists.1 (K3.out.room 3 (by omega)).1; have fq3 := (K3.out.room 3 (by omega)).2; obtain ⟨yq4, eq4⟩ := Option.isSome_iff_exists.1 (K3.out.room 4 (by omega)).1; have fq4 := (K3.out.room 4 (by omega)).2; obtain ⟨yq5, eq5⟩ := Option.isSome_iff_exists.1 (K3.out.room 5 (by omega)).1; have fq5 := (K3.out.room 5 (by omega)).2; clear hb))
    go_wp2
    refine bodyPost_ret (v := .tuple #[.agg #[.int .i64 0, .int .i64 0, .int .i64 0, .int .i64 0, .int .i64 0, .int .i64 0], .bool false]) (by simp [results, Tryd.results39, go_sem, *]) rfl (J2Out.no HG.out ?_)
    exact (((((K3.out.setR _).setR _).setR _).setR _).setR _).setR _ |>.below
  · have HE : Hid ((((((((false || !(jv x)) || !(fTimes (m.get 0) x.x).2) || !(fTimes (m.get 1) x.y).2) || !(fAdd (fTimes (m.get 0) x.x).1 (fTimes (m.get 1) x.y).1).2) || !(fTimes (m.get 2) x.x).2) || !(fTimes (m.get 3) x.y).2) || !(fAdd (fTimes (m.get 2) x.x).1 (fTimes (m.get 3) x.y).1).2) = false) := by show _ = _; rw [he, hg]; rfl
    have HV := Lib.hid (hx hg)
    have HG := Lib.hid hg
    clear he hx hno hg
    go_region_held3 (fun w' => w'.cell? ⟨w3.heap.size, 0, none⟩ = some (.pointer (some ⟨w.heap.size + 1 + 1 + 1, 0, none⟩))) (((try dsimp only); (repeat' first | (with_reducible exact sb3.out) | (with_reducible exact sb2.out) | (with_reducible exact sb1.out) | (with_reducible exact sb0.out) | (with_reducible refine (World.cell?_setCell_far _ _ _ _ ?_).trans ?_; (focus (show w.heap.size + 1 + 1 ≠ w3.heap.size; omega)))))) (first | ((have hneed := K1.out; clear hneed); go_at_call 87; (with_reducible refine Calls.mono (row1_any (m := m) (x := x) hA hX hOb hOP K1.out sb1.out) ?_); rintro e w6 ⟨rfl, hK, hc, hz⟩; have K2 := Lib.hid hK; have sb2 := Lib.hid hc; have hz2 := hz; clear hK hc hz) | (go_at_call 87; (with_reducible refine Calls.mono (row0_any (m := m) (x := x) hA hX hOb hOP K0.out sb0.out) ?_); rintro e w5 ⟨rfl, hK, hc, hz⟩; have K1 := Lib.hid hK; have sb1 := Lib.hid hc; have hz1 := hz; (try simp at hz1); clear hK hc hz) | (go_at_call 88; (with_reducible refine (gotJones_yes (w.heap.size + 1 + 1 + 1) ⟨(fAdd (fTimes (m.get 0) x.x).1 (fTimes (m.get 1) x.y).1).1, (fAdd (fTimes (m.get 2) x.x).1 (fTimes (m.get 3) x.y).1).1⟩ _ (Nat.lt_of_lt_of_le K2.out.hP K2.out.hB) (K2.out.cell.trans (congrArg (fun x => some (Value.bool x)) HE.out))).mono ?_); rintro e w7 ⟨rfl, hb⟩; have K3 := Lib.hid (K2.out.next hb); have sb3 := Lib.hid ((hb.cell (p := ⟨w3.heap.size, 0, none⟩) (by show w3.heap.size < _; omega)).trans sb2.out); obtain ⟨yq0, eq0⟩ := Option.isSome_iff_exists.1 (K3.out.room 0 (by omega)).1; have fq0 := (K3.out.room 0 (by omega)).2; obtain ⟨yq1, eq1⟩ := Option.isSome_iff_exists.1 (K3.out.room 1 (by omega)).1; have fq1 := (K3.out.room 1 (by omega)).2; obtain ⟨yq2, eq2⟩ := Option.isSome_iff_exists.1 (K3.out.room 2 (by omega)).1; have fq2 := (K3.out.room 2 (by omega)).2; obtain ⟨yq3, eq3⟩ := Option.isSome_iff_exists.1 (K3.out.room 3 (by omega)).1; have fq3 := (K3.out.room 3 (by omega)).2; obtain ⟨yq4, eq4⟩ := Option.isSome_iff_exists.1 (K3.out.room 4 (by omega)).1; have fq4 := (K3.out.room 4 (by omega)).2; obtain ⟨yq5, eq5⟩ := Option.isSome_iff_exists.1 (K3.out.room 5 (by omega)).1; have fq5 := (K3.out.room 5 (by omega)).2; clear hb))
    go_wp2
    refine bodyPost_ret (v := .tuple #[.agg #[.int .i64 (fAdd (fTimes (m.get 0) x.x).1 (fTimes (m.get 1) x.y).1).1.re, .int .i64 (fAdd (fTimes (m.get 0) x.x).1 (fTimes (m.get 1) x.y).1).1.im, .int .i64 (fAdd (fTimes (m.get 0) x.x).1 (fTimes (m.get 1) x.y).1).1.den, .int .i64 (fAdd (fTimes (m.get 2) x.x).1 (fTimes (m.get 3) x.y).1).1.re, .int .i64 (fAdd (fTimes (m.get 2) x.x).1 (fTimes (m.get 3) x.y).1).1.im, .int .i64 (fAdd (fTimes (m.get 2) x.x).1 (fTimes (m.get 3) x.y).1).1.den], .bool true]) (by simp [results, Tryd.results39, go_sem, *]) rfl (J2Out.yes (f := ⟨(fAdd (fTimes (m.get 0) x.x).1 (fTimes (m.get 1) x.y).1).1, (fAdd (fTimes (m.get 2) x.x).1 (fTimes (m.get 3) x.y).1).1⟩) HG.out HV.out ?_)
    exact (((((K3.out.setR _).setR _).setR _).setR _).setR _).setR _ |>.below
set_option maxRecDepth 100000 in
set_option maxHeartbeats 40000000 in
theorem imap_no (m : M4) (x : J2) (hm : all4 vld m = false) (w : World) : Calls Tryd.prog 39 #[.agg #[.int .i64 m.a.re, .int .i64 m.a.im, .int .i64 m.a.den, .int .i64 m.b.re, .int .i64 m.b.im, .int .i64 m.b.den, .int .i64 m.c.re, .int .i64 m.c.im, .int .i64 m.c.den, .int .i64 m.d.re, .int .i64 m.d.im, .int .i64 m.d.den], .agg #[.int .i64 x.x.re, .int .i64 x.x.im, .int .i64 x.x.den, .int .i64 x.y.re, .int .i64 x.y.im, .int .i64 x.y.den]] w (J2Out (mApI m x) w) := by
  have hmf : ∀ (fn : Fn) (first cap : Array Value) (w : World), (Instr.makeFunc fn first cap).run Tryd.prog w = .ok (.func fn first cap) w := fun _ _ _ _ => rfl
  have K0 : Hid (CK w (w.heap.size + 1 + 1 + 1) (w.heap.size + 1 + 1) 2 false (w.heap.size + 1 + 1 + 1 + 1) [(w.heap.size, 4, m.get), (w.heap.size + 1, 2, j2k x)] ((((w.alloc (.cells #[.int .i64 m.a.re, .int .i64 m.a.im, .int .i64 m.a.den, .int .i64 m.b.re, .int .i64 m.b.im, .int .i64 m.b.den, .int .i64 m.c.re, .int .i64 m.c.im, .int .i64 m.c.den, .int .i64 m.d.re, .int .i64 m.d.im, .int .i64 m.d.den] 45)).alloc (.cells #[.int .i64 x.x.re, .int .i64 x.x.im, .int .i64 x.x.den, .int .i64 x.y.re, .int .i64 x.y.im, .int .i64 x.y.den] 37)).alloc (.cells #[.int .i64 0, .int .i64 0, .int .i64 0, .int .i64 0, .int .i64 0, .int .i64 0] 37)).alloc (.cells #[.bool false] 82))) := by
    show CK _ _ _ _ _ _ _ _
    refine ⟨by (repeat' first | exact Below.refl _ _ | apply bl_alloc | apply bl_drewN | apply bl_drew | refine bl_trans ?_ (by assumption) | refine bl_set ?_ (by first | omega | (simp <;> omega)) _), by omega, by omega, by omega, by omega, by omega, by simp, by simp [go_sem], by simp [go_sem], (Room.new' (by simp) rfl).alloc (by simp) _, fun e he => ?_⟩
    rcases List.mem_cons.1 he with rfl | he
    · exact ⟨by show w.heap.size < _; omega, ⟨by show w.heap.size ≠ _; omega, by show w.heap.size ≠ _; omega⟩, (((BoxAt.new _ _ _ _ _ (src4 m)).alloc (by simp) _).alloc (by simp) _).alloc (by simp) _⟩
    · obtain rfl := List.mem_singleton.1 he
      exact ⟨by show w.heap.size + 1 < _; omega, ⟨by show w.heap.size + 1 ≠ _; omega, by show w.heap.size + 1 ≠ _; omega⟩, ((BoxAt.new' (by simp) (srcJ x)).alloc (by simp) _).alloc (by simp) _⟩
  go_enter Tryd.func39, Tryd.ntmps39
  go_wp2_with fail
  refine (imatvalid_any m _).mono ?_
  rintro e w1 ⟨rfl, hb⟩
  rw [hm]
  have K0 := Lib.hid (K0.out.next hb)
  have hB1 := K0.out.hB
  have hc1 := (K0.out.box (w.heap.size + 1, 2, j2k x) (by simp)).2.2.j6
  clear hb
  clear hc1
  go_wp2_with fail
  refine (need_any (w.heap.size + 1 + 1 + 1) false false w1 (by have := K0.out.hB; omega) K0.out.cell K0.out.free).mono ?_
  rintro e w3 ho
  obtain ⟨rfl, hs⟩ := ho.fn
  have K0 := Lib.hid (K0.out.sm hs)
  have hB3 := K0.out.hB
  clear hs ho
  obtain ⟨V, hV⟩ : ∃ V, V = w3.alloc (.cells #[.pointer (some ⟨w.heap.size + 1 + 1 + 1, 0, none⟩)] 80) := ⟨_, rfl⟩
  have hVz : V.heap.size = w3.heap.size + 1 := by rw [hV]; simp
  have K0 : Hid (CK w (w.heap.size + 1 + 1 + 1) (w.heap.size + 1 + 1) 2 (false || !false) V.heap.size [(w.heap.size, 4, m.get), (w.heap.size + 1, 2, j2k x)] V) := by
    show CK _ _ _ _ _ _ _ _
    rw [hV]
    exact (K0.out.alloc _).grow (by simp; omega) (Nat.le_refl _)
  have sb0 : Hid (V.cell? ⟨w3.heap.size, 0, none⟩ = some (.pointer (some ⟨w.heap.size + 1 + 1 + 1, 0, none⟩))) := by show _ = _; rw [hV]; simp [go_sem]
  go_wp2
  rw [← hV]
  clear hV
  have K0 : Hid (CK w (w.heap.size + 1 + 1 + 1) (w.heap.size + 1 + 1) 2 (false || !false) V.heap.size [(w.heap.size, 4, m.get), (w.heap.size + 1, 2, j2k x)] V.drew) := K0.out.drew
  have sb0 : Hid (V.drew.cell? ⟨w3.heap.size, 0, none⟩ = some (.pointer (some ⟨w.heap.size + 1 + 1 + 1, 0, none⟩))) := sb0.out
  have hA : (w.heap.size, 4, m.get) ∈ [(w.heap.size, 4, m.get), (w.heap.size + 1, 2, j2k x)] := by simp
  have hX : (w.heap.size + 1, 2, j2k x) ∈ [(w.heap.size, 4, m.get), (w.heap.size + 1, 2, j2k x)] := by simp
  have hOb : w3.heap.size < V.heap.size := by omega
  have hOP : w3.heap.size ≠ w.heap.size + 1 + 1 + 1 := by omega
  have he : (((((((false || !false) || !(fTimes (m.get 0) x.x).2) || !(fTimes (m.get 1) x.y).2) || !(fAdd (fTimes (m.get 0) x.x).1 (fTimes (m.get 1) x.y).1).2) || !(fTimes (m.get 2) x.x).2) || !(fTimes (m.get 3) x.y).2) || !(fAdd (fTimes (m.get 2) x.x).1 (fTimes (m.get 3) x.y).1).2) = !(mApI m x).2 := by have := (gt_end j2z (((((((false || !(all4 vld m && jv x)) || !(fTimes (m.get 0) x.x).2) || !(fTimes (m.get 1) x.y).2) || !(fAdd (fTimes (m.get 0) x.x).1 (fTimes (m.get 1) x.y).1).2) || !(fTimes (m.get 2) x.x).2) || !(fTimes (m.get 3) x.y).2) || !(fAdd (fTimes (m.get 2) x.x).1 (fTimes (m.get 3) x.y).1).2) ⟨(fAdd (fTimes (m.get 0) x.x).1 (fTimes (m.get 1) x.y).1).1, (fAdd (fTimes (m.get 2) x.x).1 (fTimes (m.get 3) x.y).1).1⟩).1; rw [hm] at this; simp only [Bool.false_and] at this; rw [this]; unfold mApI; rw [hm]; simp only [Bool.false_and]
  have hx : (mApI m x).2 = true → (⟨(fAdd (fTimes (m.get 0) x.x).1 (fTimes (m.get 1) x.y).1).1, (fAdd (fTimes (m.get 2) x.x).1 (fTimes (m.get 3) x.y).1).1⟩ : J2) = (mApI m x).1 := (gt_end _ _ _).2
  have hno : (mApI m x).2 = false → mApI m x = (j2z, false) := gt_no
  have hg : (mApI m x).2 = false := by
    have h1 := he
    simp at h1
    exact h1
  have HE : Hid ((((((((false || !false) || !(fTimes (m.get 0) x.x).2) || !(fTimes (m.get 1) x.y).2) || !(fAdd (fTimes (m.get 0) x.x).1 (fTimes (m.get 1) x.y).1).2) || !(fTimes (m.get 2) x.x).2) || !(fTimes (m.get 3) x.y).2) || !(fAdd (fTimes (m.get 2) x.x).1 (fTimes (m.get 3) x.y).1).2) = true) := by show _ = _; rw [he, hg]; rfl
  have HG := Lib.hid (hno hg)
  clear he hx hno hg
  go_region_held3 (fun w' => w'.cell? ⟨w3.heap.size, 0, none⟩ = some (.pointer (some ⟨w.heap.size + 1 + 1 + 1, 0, none⟩))) (((try dsimp only); (repeat' first | (with_reducible exact sb3.out) | (with_reducible exact sb2.out) | (with_reducible exact sb1.out) | (with_reducible exact sb0.out) | (with_reducible refine (World.cell?_setCell_far _ _ _ _ ?_).trans ?_; (focus (show w.heap.size + 1 + 1 ≠ w3.heap.size; omega)))))) (first | ((have hneed := K1.out; clear hneed); go_at_call 87; (with_reducible refine Calls.mono (row1_any (m := m) (x := x) hA hX hOb hOP K1.out sb1.out) ?_); rintro e w6 ⟨rfl, hK, hc, hz⟩; have K2 := Lib.hid hK; have sb2 := Lib.hid hc; have hz2 := hz; clear hK hc hz) | (go_at_call 87; (with_reducible refine Calls.mono (row0_any (m := m) (x := x) hA hX hOb hOP K0.out sb0.out) ?_); rintro e w5 ⟨rfl, hK, hc, hz⟩; have K1 := Lib.hid hK; have sb1 := Lib.hid hc; have hz1 := hz; (try simp at hz1); clear hK hc hz) | (go_at_call 88; (with_reducible refine (gotJones_no (w.heap.size + 1 + 1 + 1) ⟨(fAdd (fTimes (m.get 0) x.x).1 (fTimes (m.get 1) x.y).1).1, (fAdd (fTimes (m.get 2) x.x).1 (fTimes (m.get 3) x.y).1).1⟩ _ (Nat.lt_of_lt_of_le K2.out.hP K2.out.hB) (K2.out.cell.trans (congrArg (fun x => some (Value.bool x)) HE.out))).mono ?_); rintro e w7 ⟨rfl, hb⟩; have K3 := Lib.hid (K2.out.next hb); have sb3 := Lib.hid ((hb.cell (p := ⟨w3.heap.size, 0, none⟩) (by show w3.heap.size < _; omega)).trans sb2.out); obtain ⟨yq0, eq0⟩ := Option.isSome_iff_exists.1 (K3.out.room 0 (by omega)).1; have fq0 := (K3.out.room 0 (by omega)).2; obtain ⟨yq1, eq1⟩ := Option.isSome_iff_exists.1 (K3.out.room 1 (by omega)).1; have fq1 := (K3.out.room 1 (by omega)).2; obtain ⟨yq2, eq2⟩ := Option.isSome_iff_exists.1 (K3.out.room 2 (by omega)).1; have fq2 := (K3.out.room 2 (by omega)).2; obtain ⟨yq3, eq3⟩ := Option.isSome_iff_exists.1 (K3.out.room 3 (by omega)).1; have fq3 := (K3.out.room 3 (by omega)).2; obtain ⟨yq4, eq4⟩ := Option.isSome_iff_exists.1 (K3.out.room 4 (by omega)).1; have fq4 := (K3.out.room 4 (by omega)).2; obtain ⟨yq5, eq5⟩ := Option.isSome_iff_exists.1 (K3.out.room 5 (by omega)).1; have fq5 := (K3.out.room 5 (by omega)).2; clear hb))
  go_wp2
  refine bodyPost_ret (v := .tuple #[.agg #[.int .i64 0, .int .i64 0, .int .i64 0, .int .i64 0, .int .i64 0, .int .i64 0], .bool false]) (by simp [results, Tryd.results39, go_sem, *]) rfl (J2Out.no HG.out ?_)
  exact (((((K3.out.setR _).setR _).setR _).setR _).setR _).setR _ |>.below
theorem imap (m : M4) (x : J2) (w : World) : Calls Tryd.prog 39 #[.agg #[.int .i64 m.a.re, .int .i64 m.a.im, .int .i64 m.a.den, .int .i64 m.b.re, .int .i64 m.b.im, .int .i64 m.b.den, .int .i64 m.c.re, .int .i64 m.c.im, .int .i64 m.c.den, .int .i64 m.d.re, .int .i64 m.d.im, .int .i64 m.d.den], .agg #[.int .i64 x.x.re, .int .i64 x.x.im, .int .i64 x.x.den, .int .i64 x.y.re, .int .i64 x.y.im, .int .i64 x.y.den]] w (J2Out (mApI m x) w) := by
  cases hm : all4 vld m
  · exact imap_no m x hm w
  · exact imap_any m x hm w
end Go.Proofs.YtcpdapfcbnhgaaaDoor
/- MC -/
namespace Go.Proofs.YtcpdapfcbnhgaaaDoor
open Go.RowKit Pol

def mAp (m : M4) (x : J2) : J2 × Bool := if all4 vld m = true then if jv x = true then if ((fIn (m.get 0) x.x (m.get 1) x.y).2 && (fIn (m.get 2) x.x (m.get 3) x.y).2) = true then (⟨(fIn (m.get 0) x.x (m.get 1) x.y).1, (fIn (m.get 2) x.x (m.get 3) x.y).1⟩, true) else (j2z, false) else (j2z, false) else (j2z, false)
theorem mApI_eq (m : M4) (x : J2) : mApI m x = mAp m x := by
  have e : mApI m x = gt j2z (eIn (eIn (false || !(all4 vld m && jv x)) (m.get 0) x.x (m.get 1) x.y) (m.get 2) x.x (m.get 3) x.y) ⟨(fAdd (fTimes (m.get 0) x.x).1 (fTimes (m.get 1) x.y).1).1, (fAdd (fTimes (m.get 2) x.x).1 (fTimes (m.get 3) x.y).1).1⟩ := rfl
  rw [e, eIn_eq, eIn_eq]
  unfold gt mAp
  cases h1 : all4 vld m
  · simp
  cases h2 : jv x
  · simp
  cases h3 : (fIn (m.get 0) x.x (m.get 1) x.y).2
  · simp
  cases h4 : (fIn (m.get 2) x.x (m.get 3) x.y).2
  · simp
  simp [fIn_val h3, fIn_val h4]
theorem imap_m (m : M4) (x : J2) (w : World) : Calls Tryd.prog 39 #[.agg #[.int .i64 m.a.re, .int .i64 m.a.im, .int .i64 m.a.den, .int .i64 m.b.re, .int .i64 m.b.im, .int .i64 m.b.den, .int .i64 m.c.re, .int .i64 m.c.im, .int .i64 m.c.den, .int .i64 m.d.re, .int .i64 m.d.im, .int .i64 m.d.den], .agg #[.int .i64 x.x.re, .int .i64 x.x.im, .int .i64 x.x.den, .int .i64 x.y.re, .int .i64 x.y.im, .int .i64 x.y.den]] w (J2Out (mAp m x) w) := mApI_eq m x ▸ imap m x w
set_option maxRecDepth 100000 in
set_option maxHeartbeats 8000000 in
theorem smap_any (m : M4) (x : J2) (w : World) :
    Calls Tryd.prog 43 #[.agg #[.int .i64 m.a.re, .int .i64 m.a.im, .int .i64 m.a.den, .int .i64 m.b.re, .int .i64 m.b.im, .int .i64 m.b.den, .int .i64 m.c.re, .int .i64 m.c.im, .int .i64 m.c.den, .int .i64 m.d.re, .int .i64 m.d.im, .int .i64 m.d.den], .agg #[.int .i64 x.x.re, .int .i64 x.x.im, .int .i64 x.x.den, .int .i64 x.y.re, .int .i64 x.y.im, .int .i64 x.y.den]] w (J2Out (mAp m x) w) := by
  cases h1 : all4 vld m
  · have HG : Hid ((mAp m x) = (j2z, false)) := by show _ = _; simp [mAp, h1]
    go_enter Tryd.func43, Tryd.ntmps43
    go_wp2_with fail
    refine (smatvalid_any m _).mono ?_
    rintro e w1 ho
    obtain ⟨rfl, hb⟩ := (id ho)
    have kc0 := fun o => hb.cell (p := ⟨w.heap.size, o, none⟩) (by show w.heap.size < _; first | omega | (simp <;> omega))
    have kc1 := fun o => hb.cell (p := ⟨w.heap.size + 1, o, none⟩) (by show w.heap.size + 1 < _; first | omega | (simp <;> omega))
    have kc2 := fun o => hb.cell (p := ⟨w.heap.size + 1 + 1, o, none⟩) (by show w.heap.size + 1 + 1 < _; first | omega | (simp <;> omega))
    have kf0 := fun o => hb.frozen (p := ⟨w.heap.size + 1 + 1, o, none⟩) (by show w.heap.size + 1 + 1 < _; first | omega | (simp <;> omega))
    have hz := hb.size
    (try simp at hz)
    have kl0 : w.heap.size < w1.heap.size := by omega
    have kn0 : ¬ w.heap.size = w1.heap.size := by omega
    have km0 : ¬ w1.heap.size = w.heap.size := by omega
    have kl1 : w.heap.size + 1 < w1.heap.size := by omega
    have kn1 : ¬ w.heap.size + 1 = w1.heap.size := by omega
    have km1 : ¬ w1.heap.size = w.heap.size + 1 := by omega
    have kl2 : w.heap.size + 1 + 1 < w1.heap.size := by omega
    have kn2 : ¬ w.heap.size + 1 + 1 = w1.heap.size := by omega
    have km2 : ¬ w1.heap.size = w.heap.size + 1 + 1 := by omega
    have HB := Lib.hid (show Below w.heap.size w w1 from by (repeat' first | exact Below.refl _ _ | apply bl_alloc | apply bl_drewN | apply bl_drew | refine bl_trans ?_ (by assumption) | refine bl_set ?_ (by first | omega | (simp <;> omega)) _))
    have HR := Lib.hid ((show Room _ (w.heap.size + 1 + 1) 2 from (Room.new' (by simp) rfl)).below hb (by first | omega | (simp <;> omega)))
    clear ho hb
    go_wp2
    refine bodyPost_ret (v := .tuple #[.agg #[.int .i64 0, .int .i64 0, .int .i64 0, .int .i64 0, .int .i64 0, .int .i64 0], .bool false]) ?_ rfl (J2Out.no HG.out ?_)
    · exact Eq.trans (results_cell_mid2 Tryd.results43 _ _ (w.heap.size + 1 + 1) [.int .i64 0, .int .i64 0, .int .i64 0, .int .i64 0, .int .i64 0, .int .i64 0] _ (by rfl) (by ((repeat' first | (with_reducible refine World.rangeAt_setCells_same _ (w.heap.size + 1 + 1) 0 [.int .i64 0, .int .i64 0, .int .i64 0, .int .i64 0, .int .i64 0, .int .i64 0] ?_) | (with_reducible refine World.rangeAt_alloc ?_ _) | (with_reducible refine (World.rangeAt_drew _ _ _ _).2 ?_)); first | exact HR.out.there | (have hh := fun W h => World.rangeAt_setCells_same W (w.heap.size + 1 + 1) 0 [.int .i64 0, .int .i64 0, .int .i64 0, .int .i64 0, .int .i64 0, .int .i64 0] h; simp only [World.setCells, Nat.zero_add, Nat.reduceAdd] at hh; exact hh _ HR.out.there))) Tryd.underlying37 rfl (by kernel_rfl)) rfl
    · (repeat' first | (with_reducible exact HB.out) | with_reducible refine setCells_below _ _ _ ?_ (by first | omega | (simp <;> omega)) | with_reducible refine Below.setCell ?_ (by show _ ≤ _; first | omega | (simp <;> omega) | simp) _ | with_reducible refine Below.alloc ?_ (by first | omega | (simp <;> omega)) _ | with_reducible apply Below.drew)
  cases h2 : jv x
  · have HG : Hid ((mAp m x) = (j2z, false)) := by show _ = _; simp [mAp, h1, h2]
    go_enter Tryd.func43, Tryd.ntmps43
    go_wp2_with fail
    refine (smatvalid_any m _).mono ?_
    rintro e w1 ho
    obtain ⟨rfl, hb⟩ := (id ho)
    have kc0 := fun o => hb.cell (p := ⟨w.heap.size, o, none⟩) (by show w.heap.size < _; first | omega | (simp <;> omega))
    have kc1 := fun o => hb.cell (p := ⟨w.heap.size + 1, o, none⟩) (by show w.heap.size + 1 < _; first | omega | (simp <;> omega))
    have kc2 := fun o => hb.cell (p := ⟨w.heap.size + 1 + 1, o, none⟩) (by show w.heap.size + 1 + 1 < _; first | omega | (simp <;> omega))
    have kf0 := fun o => hb.frozen (p := ⟨w.heap.size + 1 + 1, o, none⟩) (by show w.heap.size + 1 + 1 < _; first | omega | (simp <;> omega))
    have hz := hb.size
    (try simp at hz)
    have kl0 : w.heap.size < w1.heap.size := by omega
    have kn0 : ¬ w.heap.size = w1.heap.size := by omega
    have km0 : ¬ w1.heap.size = w.heap.size := by omega
    have kl1 : w.heap.size + 1 < w1.heap.size := by omega
    have kn1 : ¬ w.heap.size + 1 = w1.heap.size := by omega
    have km1 : ¬ w1.heap.size = w.heap.size + 1 := by omega
    have kl2 : w.heap.size + 1 + 1 < w1.heap.size := by omega
    have kn2 : ¬ w.heap.size + 1 + 1 = w1.heap.size := by omega
    have km2 : ¬ w1.heap.size = w.heap.size + 1 + 1 := by omega
    have HB := Lib.hid (show Below w.heap.size w w1 from by (repeat' first | exact Below.refl _ _ | apply bl_alloc | apply bl_drewN | apply bl_drew | refine bl_trans ?_ (by assumption) | refine bl_set ?_ (by first | omega | (simp <;> omega)) _))
    have HR := Lib.hid ((show Room _ (w.heap.size + 1 + 1) 2 from (Room.new' (by simp) rfl)).below hb (by first | omega | (simp <;> omega)))
    clear ho hb
    go_wp2_with fail
    refine (sjv_any x _).mono ?_
    rintro e w2 ho
    obtain ⟨rfl, hb⟩ := (id ho)
    have kc0 := fun o => hb.cell (p := ⟨w.heap.size, o, none⟩) (by show w.heap.size < _; first | omega | (simp <;> omega))
    have kc1 := fun o => hb.cell (p := ⟨w.heap.size + 1, o, none⟩) (by show w.heap.size + 1 < _; first | omega | (simp <;> omega))
    have kc2 := fun o => hb.cell (p := ⟨w.heap.size + 1 + 1, o, none⟩) (by show w.heap.size + 1 + 1 < _; first | omega | (simp <;> omega))
    have kf0 := fun o => hb.frozen (p := ⟨w.heap.size + 1 + 1, o, none⟩) (by show w.heap.size + 1 + 1 < _; first | omega | (simp <;> omega))
    have hz := hb.size
    (try simp at hz)
    have kl0 : w.heap.size < w2.heap.size := by omega
    have kn0 : ¬ w.heap.size = w2.heap.size := by omega
    have km0 : ¬ w2.heap.size = w.heap.size := by omega
    have kl1 : w.heap.size + 1 < w2.heap.size := by omega
    have kn1 : ¬ w.heap.size + 1 = w2.heap.size := by omega
    have km1 : ¬ w2.heap.size = w.heap.size + 1 := by omega
    have kl2 : w.heap.size + 1 + 1 < w2.heap.size := by omega
    have kn2 : ¬ w.heap.size + 1 + 1 = w2.heap.size := by omega
    have km2 : ¬ w2.heap.size = w.heap.size + 1 + 1 := by omega
    have HB := Lib.hid (show Below w.heap.size w w2 from by exact HB.out.trans ((show Below _ _ _ from (Below.refl _ _)).trans (hb.mono (by first | omega | (simp <;> omega)))))
    have HR := Lib.hid ((show Room _ (w.heap.size + 1 + 1) 2 from HR.out).below hb (by first | omega | (simp <;> omega)))
    clear ho hb
    go_wp2
    refine bodyPost_ret (v := .tuple #[.agg #[.int .i64 0, .int .i64 0, .int .i64 0, .int .i64 0, .int .i64 0, .int .i64 0], .bool false]) ?_ rfl (J2Out.no HG.out ?_)
    · exact Eq.trans (results_cell_mid2 Tryd.results43 _ _ (w.heap.size + 1 + 1) [.int .i64 0, .int .i64 0, .int .i64 0, .int .i64 0, .int .i64 0, .int .i64 0] _ (by rfl) (by ((repeat' first | (with_reducible refine World.rangeAt_setCells_same _ (w.heap.size + 1 + 1) 0 [.int .i64 0, .int .i64 0, .int .i64 0, .int .i64 0, .int .i64 0, .int .i64 0] ?_) | (with_reducible refine World.rangeAt_alloc ?_ _) | (with_reducible refine (World.rangeAt_drew _ _ _ _).2 ?_)); first | exact HR.out.there | (have hh := fun W h => World.rangeAt_setCells_same W (w.heap.size + 1 + 1) 0 [.int .i64 0, .int .i64 0, .int .i64 0, .int .i64 0, .int .i64 0, .int .i64 0] h; simp only [World.setCells, Nat.zero_add, Nat.reduceAdd] at hh; exact hh _ HR.out.there))) Tryd.underlying37 rfl (by kernel_rfl)) rfl
    · (repeat' first | (with_reducible exact HB.out) | with_reducible refine setCells_below _ _ _ ?_ (by first | omega | (simp <;> omega)) | with_reducible refine Below.setCell ?_ (by show _ ≤ _; first | omega | (simp <;> omega) | simp) _ | with_reducible refine Below.alloc ?_ (by first | omega | (simp <;> omega)) _ | with_reducible apply Below.drew)
  cases h3 : (fIn (m.get 0) x.x (m.get 1) x.y).2
  · have HG : Hid ((mAp m x) = (j2z, false)) := by show _ = _; simp [mAp, h1, h2, h3]
    go_enter Tryd.func43, Tryd.ntmps43
    go_wp2_with fail
    refine (smatvalid_any m _).mono ?_
    rintro e w1 ho
    obtain ⟨rfl, hb⟩ := (id ho)
    have kc0 := fun o => hb.cell (p := ⟨w.heap.size, o, none⟩) (by show w.heap.size < _; first | omega | (simp <;> omega))
    have kc1 := fun o => hb.cell (p := ⟨w.heap.size + 1, o, none⟩) (by show w.heap.size + 1 < _; first | omega | (simp <;> omega))
    have kc2 := fun o => hb.cell (p := ⟨w.heap.size + 1 + 1, o, none⟩) (by show w.heap.size + 1 + 1 < _; first | omega | (simp <;> omega))
    have kf0 := fun o => hb.frozen (p := ⟨w.heap.size + 1 + 1, o, none⟩) (by show w.heap.size + 1 + 1 < _; first | omega | (simp <;> omega))
    have hz := hb.size
    (try simp at hz)
    have kl0 : w.heap.size < w1.heap.size := by omega
    have kn0 : ¬ w.heap.size = w1.heap.size := by omega
    have km0 : ¬ w1.heap.size = w.heap.size := by omega
    have kl1 : w.heap.size + 1 < w1.heap.size := by omega
    have kn1 : ¬ w.heap.size + 1 = w1.heap.size := by omega
    have km1 : ¬ w1.heap.size = w.heap.size + 1 := by omega
    have kl2 : w.heap.size + 1 + 1 < w1.heap.size := by omega
    have kn2 : ¬ w.heap.size + 1 + 1 = w1.heap.size := by omega
    have km2 : ¬ w1.heap.size = w.heap.size + 1 + 1 := by omega
    have HB := Lib.hid (show Below w.heap.size w w1 from by (repeat' first | exact Below.refl _ _ | apply bl_alloc | apply bl_drewN | apply bl_drew | refine bl_trans ?_ (by assumption) | refine bl_set ?_ (by first | omega | (simp <;> omega)) _))
    have HR := Lib.hid ((show Room _ (w.heap.size + 1 + 1) 2 from (Room.new' (by simp) rfl)).below hb (by first | omega | (simp <;> omega)))
    clear ho hb
    go_wp2_with fail
    refine (sjv_any x _).mono ?_
    rintro e w2 ho
    obtain ⟨rfl, hb⟩ := (id ho)
    have kc0 := fun o => hb.cell (p := ⟨w.heap.size, o, none⟩) (by show w.heap.size < _; first | omega | (simp <;> omega))
    have kc1 := fun o => hb.cell (p := ⟨w.heap.size + 1, o, none⟩) (by show w.heap.size + 1 < _; first | omega | (simp <;> omega))
    have kc2 := fun o => hb.cell (p := ⟨w.heap.size + 1 + 1, o, none⟩) (by show w.heap.size + 1 + 1 < _; first | omega | (simp <;> omega))
    have kf0 := fun o => hb.frozen (p := ⟨w.heap.size + 1 + 1, o, none⟩) (by show w.heap.size + 1 + 1 < _; first | omega | (simp <;> omega))
    have hz := hb.size
    (try simp at hz)
    have kl0 : w.heap.size < w2.heap.size := by omega
    have kn0 : ¬ w.heap.size = w2.heap.size := by omega
    have km0 : ¬ w2.heap.size = w.heap.size := by omega
    have kl1 : w.heap.size + 1 < w2.heap.size := by omega
    have kn1 : ¬ w.heap.size + 1 = w2.heap.size := by omega
    have km1 : ¬ w2.heap.size = w.heap.size + 1 := by omega
    have kl2 : w.heap.size + 1 + 1 < w2.heap.size := by omega
    have kn2 : ¬ w.heap.size + 1 + 1 = w2.heap.size := by omega
    have km2 : ¬ w2.heap.size = w.heap.size + 1 + 1 := by omega
    have HB := Lib.hid (show Below w.heap.size w w2 from by exact HB.out.trans ((show Below _ _ _ from (Below.refl _ _)).trans (hb.mono (by first | omega | (simp <;> omega)))))
    have HR := Lib.hid ((show Room _ (w.heap.size + 1 + 1) 2 from HR.out).below hb (by first | omega | (simp <;> omega)))
    clear ho hb
    go_wp2_with fail
    refine (l3in_any (m.get 0) x.x (m.get 1) x.y _).mono ?_
    rintro e w3 ho
    obtain ⟨rfl, hb⟩ := ho.fn
    have kc0 := fun o => hb.cell (p := ⟨w.heap.size, o, none⟩) (by show w.heap.size < _; first | omega | (simp <;> omega))
    have kc1 := fun o => hb.cell (p := ⟨w.heap.size + 1, o, none⟩) (by show w.heap.size + 1 < _; first | omega | (simp <;> omega))
    have kc2 := fun o => hb.cell (p := ⟨w.heap.size + 1 + 1, o, none⟩) (by show w.heap.size + 1 + 1 < _; first | omega | (simp <;> omega))
    have kf0 := fun o => hb.frozen (p := ⟨w.heap.size + 1 + 1, o, none⟩) (by show w.heap.size + 1 + 1 < _; first | omega | (simp <;> omega))
    have hz := hb.size
    (try simp at hz)
    have kl0 : w.heap.size < w3.heap.size := by omega
    have kn0 : ¬ w.heap.size = w3.heap.size := by omega
    have km0 : ¬ w3.heap.size = w.heap.size := by omega
    have kl1 : w.heap.size + 1 < w3.heap.size := by omega
    have kn1 : ¬ w.heap.size + 1 = w3.heap.size := by omega
    have km1 : ¬ w3.heap.size = w.heap.size + 1 := by omega
    have kl2 : w.heap.size + 1 + 1 < w3.heap.size := by omega
    have kn2 : ¬ w.heap.size + 1 + 1 = w3.heap.size := by omega
    have km2 : ¬ w3.heap.size = w.heap.size + 1 + 1 := by omega
    have HB := Lib.hid (show Below w.heap.size w w3 from by exact HB.out.trans ((show Below _ _ _ from (Below.refl _ _)).trans (hb.mono (by first | omega | (simp <;> omega)))))
    have HR := Lib.hid ((show Room _ (w.heap.size + 1 + 1) 2 from HR.out).below hb (by first | omega | (simp <;> omega)))
    clear ho hb
    go_wp2_with fail
    refine (l3in_any (m.get 2) x.x (m.get 3) x.y _).mono ?_
    rintro e w4 ho
    obtain ⟨rfl, hb⟩ := ho.fn
    have kc0 := fun o => hb.cell (p := ⟨w.heap.size, o, none⟩) (by show w.heap.size < _; first | omega | (simp <;> omega))
    have kc1 := fun o => hb.cell (p := ⟨w.heap.size + 1, o, none⟩) (by show w.heap.size + 1 < _; first | omega | (simp <;> omega))
    have kc2 := fun o => hb.cell (p := ⟨w.heap.size + 1 + 1, o, none⟩) (by show w.heap.size + 1 + 1 < _; first | omega | (simp <;> omega))
    have kc3 := fun o => hb.cell (p := ⟨w3.heap.size, o, none⟩) (by show w3.heap.size < _; first | omega | (simp <;> omega))
    have kf0 := fun o => hb.frozen (p := ⟨w.heap.size + 1 + 1, o, none⟩) (by show w.heap.size + 1 + 1 < _; first | omega | (simp <;> omega))
    have hz := hb.size
    (try simp at hz)
    have kl0 : w.heap.size < w4.heap.size := by omega
    have kn0 : ¬ w.heap.size = w4.heap.size := by omega
    have km0 : ¬ w4.heap.size = w.heap.size := by omega
    have kl1 : w.heap.size + 1 < w4.heap.size := by omega
    have kn1 : ¬ w.heap.size + 1 = w4.heap.size := by omega
    have km1 : ¬ w4.heap.size = w.heap.size + 1 := by omega
    have kl2 : w.heap.size + 1 + 1 < w4.heap.size := by omega
    have kn2 : ¬ w.heap.size + 1 + 1 = w4.heap.size := by omega
    have km2 : ¬ w4.heap.size = w.heap.size + 1 + 1 := by omega
    have kl3 : w3.heap.size < w4.heap.size := by omega
    have kn3 : ¬ w3.heap.size = w4.heap.size := by omega
    have km3 : ¬ w4.heap.size = w3.heap.size := by omega
    have HB := Lib.hid (show Below w.heap.size w w4 from by exact HB.out.trans ((show Below _ _ _ from ((Below.refl _ _).alloc (by omega) _)).trans (hb.mono (by first | omega | (simp <;> omega)))))
    have HR := Lib.hid ((show Room _ (w.heap.size + 1 + 1) 2 from (HR.out.alloc (by omega) _)).below hb (by first | omega | (simp <;> omega)))
    clear ho hb
    go_wp2
    refine bodyPost_ret (v := .tuple #[.agg #[.int .i64 0, .int .i64 0, .int .i64 0, .int .i64 0, .int .i64 0, .int .i64 0], .bool false]) ?_ rfl (J2Out.no HG.out ?_)
    · exact Eq.trans (results_cell_mid2 Tryd.results43 _ _ (w.heap.size + 1 + 1) [.int .i64 0, .int .i64 0, .int .i64 0, .int .i64 0, .int .i64 0, .int .i64 0] _ (by rfl) (by ((repeat' first | (with_reducible refine World.rangeAt_setCells_same _ (w.heap.size + 1 + 1) 0 [.int .i64 0, .int .i64 0, .int .i64 0, .int .i64 0, .int .i64 0, .int .i64 0] ?_) | (with_reducible refine World.rangeAt_alloc ?_ _) | (with_reducible refine (World.rangeAt_drew _ _ _ _).2 ?_)); first | exact HR.out.there | (have hh := fun W h => World.rangeAt_setCells_same W (w.heap.size + 1 + 1) 0 [.int .i64 0, .int .i64 0, .int .i64 0, .int .i64 0, .int .i64 0, .int .i64 0] h; simp only [World.setCells, Nat.zero_add, Nat.reduceAdd] at hh; exact hh _ HR.out.there))) Tryd.underlying37 rfl (by kernel_rfl)) rfl
    · (repeat' first | (with_reducible exact HB.out) | with_reducible refine setCells_below _ _ _ ?_ (by first | omega | (simp <;> omega)) | with_reducible refine Below.setCell ?_ (by show _ ≤ _; first | omega | (simp <;> omega) | simp) _ | with_reducible refine Below.alloc ?_ (by first | omega | (simp <;> omega)) _ | with_reducible apply Below.drew)
  cases h4 : (fIn (m.get 2) x.x (m.get 3) x.y).2
  · have HG : Hid ((mAp m x) = (j2z, false)) := by show _ = _; simp [mAp, h1, h2, h3, h4]
    go_enter Tryd.func43, Tryd.ntmps43
    go_wp2_with fail
    refine (smatvalid_any m _).mono ?_
    rintro e w1 ho
    obtain ⟨rfl, hb⟩ := (id ho)
    have kc0 := fun o => hb.cell (p := ⟨w.heap.size, o, none⟩) (by show w.heap.size < _; first | omega | (simp <;> omega))
    have kc1 := fun o => hb.cell (p := ⟨w.heap.size + 1, o, none⟩) (by show w.heap.size + 1 < _; first | omega | (simp <;> omega))
    have kc2 := fun o => hb.cell (p := ⟨w.heap.size + 1 + 1, o, none⟩) (by show w.heap.size + 1 + 1 < _; first | omega | (simp <;> omega))
    have kf0 := fun o => hb.frozen (p := ⟨w.heap.size + 1 + 1, o, none⟩) (by show w.heap.size + 1 + 1 < _; first | omega | (simp <;> omega))
    have hz := hb.size
    (try simp at hz)
    have kl0 : w.heap.size < w1.heap.size := by omega
    have kn0 : ¬ w.heap.size = w1.heap.size := by omega
    have km0 : ¬ w1.heap.size = w.heap.size := by omega
    have kl1 : w.heap.size + 1 < w1.heap.size := by omega
    have kn1 : ¬ w.heap.size + 1 = w1.heap.size := by omega
    have km1 : ¬ w1.heap.size = w.heap.size + 1 := by omega
    have kl2 : w.heap.size + 1 + 1 < w1.heap.size := by omega
    have kn2 : ¬ w.heap.size + 1 + 1 = w1.heap.size := by omega
    have km2 : ¬ w1.heap.size = w.heap.size + 1 + 1 := by omega
    have HB := Lib.hid (show Below w.heap.size w w1 from by (repeat' first | exact Below.refl _ _ | apply bl_alloc | apply bl_drewN | apply bl_drew | refine bl_trans ?_ (by assumption) | refine bl_set ?_ (by first | omega | (simp <;> omega)) _))
    have HR := Lib.hid ((show Room _ (w.heap.size + 1 + 1) 2 from (Room.new' (by simp) rfl)).below hb (by first | omega | (simp <;> omega)))
    clear ho hb
    go_wp2_with fail
    refine (sjv_any x _).mono ?_
    rintro e w2 ho
    obtain ⟨rfl, hb⟩ := (id ho)
    have kc0 := fun o => hb.cell (p := ⟨w.heap.size, o, none⟩) (by show w.heap.size < _; first | omega | (simp <;> omega))
    have kc1 := fun o => hb.cell (p := ⟨w.heap.size + 1, o, none⟩) (by show w.heap.size + 1 < _; first | omega | (simp <;> omega))
    have kc2 := fun o => hb.cell (p := ⟨w.heap.size + 1 + 1, o, none⟩) (by show w.heap.size + 1 + 1 < _; first | omega | (simp <;> omega))
    have kf0 := fun o => hb.frozen (p := ⟨w.heap.size + 1 + 1, o, none⟩) (by show w.heap.size + 1 + 1 < _; first | omega | (simp <;> omega))
    have hz := hb.size
    (try simp at hz)
    have kl0 : w.heap.size < w2.heap.size := by omega
    have kn0 : ¬ w.heap.size = w2.heap.size := by omega
    have km0 : ¬ w2.heap.size = w.heap.size := by omega
    have kl1 : w.heap.size + 1 < w2.heap.size := by omega
    have kn1 : ¬ w.heap.size + 1 = w2.heap.size := by omega
    have km1 : ¬ w2.heap.size = w.heap.size + 1 := by omega
    have kl2 : w.heap.size + 1 + 1 < w2.heap.size := by omega
    have kn2 : ¬ w.heap.size + 1 + 1 = w2.heap.size := by omega
    have km2 : ¬ w2.heap.size = w.heap.size + 1 + 1 := by omega
    have HB := Lib.hid (show Below w.heap.size w w2 from by exact HB.out.trans ((show Below _ _ _ from (Below.refl _ _)).trans (hb.mono (by first | omega | (simp <;> omega)))))
    have HR := Lib.hid ((show Room _ (w.heap.size + 1 + 1) 2 from HR.out).below hb (by first | omega | (simp <;> omega)))
    clear ho hb
    go_wp2_with fail
    refine (l3in_any (m.get 0) x.x (m.get 1) x.y _).mono ?_
    rintro e w3 ho
    obtain ⟨rfl, hb⟩ := ho.fn
    have kc0 := fun o => hb.cell (p := ⟨w.heap.size, o, none⟩) (by show w.heap.size < _; first | omega | (simp <;> omega))
    have kc1 := fun o => hb.cell (p := ⟨w.heap.size + 1, o, none⟩) (by show w.heap.size + 1 < _; first | omega | (simp <;> omega))
    have kc2 := fun o => hb.cell (p := ⟨w.heap.size + 1 + 1, o, none⟩) (by show w.heap.size + 1 + 1 < _; first | omega | (simp <;> omega))
    have kf0 := fun o => hb.frozen (p := ⟨w.heap.size + 1 + 1, o, none⟩) (by show w.heap.size + 1 + 1 < _; first | omega | (simp <;> omega))
    have hz := hb.size
    (try simp at hz)
    have kl0 : w.heap.size < w3.heap.size := by omega
    have kn0 : ¬ w.heap.size = w3.heap.size := by omega
    have km0 : ¬ w3.heap.size = w.heap.size := by omega
    have kl1 : w.heap.size + 1 < w3.heap.size := by omega
    have kn1 : ¬ w.heap.size + 1 = w3.heap.size := by omega
    have km1 : ¬ w3.heap.size = w.heap.size + 1 := by omega
    have kl2 : w.heap.size + 1 + 1 < w3.heap.size := by omega
    have kn2 : ¬ w.heap.size + 1 + 1 = w3.heap.size := by omega
    have km2 : ¬ w3.heap.size = w.heap.size + 1 + 1 := by omega
    have HB := Lib.hid (show Below w.heap.size w w3 from by exact HB.out.trans ((show Below _ _ _ from (Below.refl _ _)).trans (hb.mono (by first | omega | (simp <;> omega)))))
    have HR := Lib.hid ((show Room _ (w.heap.size + 1 + 1) 2 from HR.out).below hb (by first | omega | (simp <;> omega)))
    clear ho hb
    go_wp2_with fail
    refine (l3in_any (m.get 2) x.x (m.get 3) x.y _).mono ?_
    rintro e w4 ho
    obtain ⟨rfl, hb⟩ := ho.fn
    have kc0 := fun o => hb.cell (p := ⟨w.heap.size, o, none⟩) (by show w.heap.size < _; first | omega | (simp <;> omega))
    have kc1 := fun o => hb.cell (p := ⟨w.heap.size + 1, o, none⟩) (by show w.heap.size + 1 < _; first | omega | (simp <;> omega))
    have kc2 := fun o => hb.cell (p := ⟨w.heap.size + 1 + 1, o, none⟩) (by show w.heap.size + 1 + 1 < _; first | omega | (simp <;> omega))
    have kc3 := fun o => hb.cell (p := ⟨w3.heap.size, o, none⟩) (by show w3.heap.size < _; first | omega | (simp <;> omega))
    have kf0 := fun o => hb.frozen (p := ⟨w.heap.size + 1 + 1, o, none⟩) (by show w.heap.size + 1 + 1 < _; first | omega | (simp <;> omega))
    have hz := hb.size
    (try simp at hz)
    have kl0 : w.heap.size < w4.heap.size := by omega
    have kn0 : ¬ w.heap.size = w4.heap.size := by omega
    have km0 : ¬ w4.heap.size = w.heap.size := by omega
    have kl1 : w.heap.size + 1 < w4.heap.size := by omega
    have kn1 : ¬ w.heap.size + 1 = w4.heap.size := by omega
    have km1 : ¬ w4.heap.size = w.heap.size + 1 := by omega
    have kl2 : w.heap.size + 1 + 1 < w4.heap.size := by omega
    have kn2 : ¬ w.heap.size + 1 + 1 = w4.heap.size := by omega
    have km2 : ¬ w4.heap.size = w.heap.size + 1 + 1 := by omega
    have kl3 : w3.heap.size < w4.heap.size := by omega
    have kn3 : ¬ w3.heap.size = w4.heap.size := by omega
    have km3 : ¬ w4.heap.size = w3.heap.size := by omega
    have HB := Lib.hid (show Below w.heap.size w w4 from by exact HB.out.trans ((show Below _ _ _ from ((Below.refl _ _).alloc (by omega) _)).trans (hb.mono (by first | omega | (simp <;> omega)))))
    have HR := Lib.hid ((show Room _ (w.heap.size + 1 + 1) 2 from (HR.out.alloc (by omega) _)).below hb (by first | omega | (simp <;> omega)))
    clear ho hb
    go_wp2
    refine bodyPost_ret (v := .tuple #[.agg #[.int .i64 0, .int .i64 0, .int .i64 0, .int .i64 0, .int .i64 0, .int .i64 0], .bool false]) ?_ rfl (J2Out.no HG.out ?_)
    · exact Eq.trans (results_cell_mid2 Tryd.results43 _ _ (w.heap.size + 1 + 1) [.int .i64 0, .int .i64 0, .int .i64 0, .int .i64 0, .int .i64 0, .int .i64 0] _ (by rfl) (by ((repeat' first | (with_reducible refine World.rangeAt_setCells_same _ (w.heap.size + 1 + 1) 0 [.int .i64 0, .int .i64 0, .int .i64 0, .int .i64 0, .int .i64 0, .int .i64 0] ?_) | (with_reducible refine World.rangeAt_alloc ?_ _) | (with_reducible refine (World.rangeAt_drew _ _ _ _).2 ?_)); first | exact HR.out.there | (have hh := fun W h => World.rangeAt_setCells_same W (w.heap.size + 1 + 1) 0 [.int .i64 0, .int .i64 0, .int .i64 0, .int .i64 0, .int .i64 0, .int .i64 0] h; simp only [World.setCells, Nat.zero_add, Nat.reduceAdd] at hh; exact hh _ HR.out.there))) Tryd.underlying37 rfl (by kernel_rfl)) rfl
    · (repeat' first | (with_reducible exact HB.out) | with_reducible refine setCells_below _ _ _ ?_ (by first | omega | (simp <;> omega)) | with_reducible refine Below.setCell ?_ (by show _ ≤ _; first | omega | (simp <;> omega) | simp) _ | with_reducible refine Below.alloc ?_ (by first | omega | (simp <;> omega)) _ | with_reducible apply Below.drew)
  · have HG : Hid ((mAp m x) = (⟨(fIn (m.get 0) x.x (m.get 1) x.y).1, (fIn (m.get 2) x.x (m.get 3) x.y).1⟩, true)) := by show _ = _; simp [mAp, h1, h2, h3, h4]
    go_enter Tryd.func43, Tryd.ntmps43
    go_wp2_with fail
    refine (smatvalid_any m _).mono ?_
    rintro e w1 ho
    obtain ⟨rfl, hb⟩ := (id ho)
    have kc0 := fun o => hb.cell (p := ⟨w.heap.size, o, none⟩) (by show w.heap.size < _; first | omega | (simp <;> omega))
    have kc1 := fun o => hb.cell (p := ⟨w.heap.size + 1, o, none⟩) (by show w.heap.size + 1 < _; first | omega | (simp <;> omega))
    have kc2 := fun o => hb.cell (p := ⟨w.heap.size + 1 + 1, o, none⟩) (by show w.heap.size + 1 + 1 < _; first | omega | (simp <;> omega))
    have kf0 := fun o => hb.frozen (p := ⟨w.heap.size + 1 + 1, o, none⟩) (by show w.heap.size + 1 + 1 < _; first | omega | (simp <;> omega))
    have hz := hb.size
    (try simp at hz)
    have kl0 : w.heap.size < w1.heap.size := by omega
    have kn0 : ¬ w.heap.size = w1.heap.size := by omega
    have km0 : ¬ w1.heap.size = w.heap.size := by omega
    have kl1 : w.heap.size + 1 < w1.heap.size := by omega
    have kn1 : ¬ w.heap.size + 1 = w1.heap.size := by omega
    have km1 : ¬ w1.heap.size = w.heap.size + 1 := by omega
    have kl2 : w.heap.size + 1 + 1 < w1.heap.size := by omega
    have kn2 : ¬ w.heap.size + 1 + 1 = w1.heap.size := by omega
    have km2 : ¬ w1.heap.size = w.heap.size + 1 + 1 := by omega
    have HB := Lib.hid (show Below w.heap.size w w1 from by (repeat' first | exact Below.refl _ _ | apply bl_alloc | apply bl_drewN | apply bl_drew | refine bl_trans ?_ (by assumption) | refine bl_set ?_ (by first | omega | (simp <;> omega)) _))
    have HR := Lib.hid ((show Room _ (w.heap.size + 1 + 1) 2 from (Room.new' (by simp) rfl)).below hb (by first | omega | (simp <;> omega)))
    clear ho hb
    go_wp2_with fail
    refine (sjv_any x _).mono ?_
    rintro e w2 ho
    obtain ⟨rfl, hb⟩ := (id ho)
    have kc0 := fun o => hb.cell (p := ⟨w.heap.size, o, none⟩) (by show w.heap.size < _; first | omega | (simp <;> omega))
    have kc1 := fun o => hb.cell (p := ⟨w.heap.size + 1, o, none⟩) (by show w.heap.size + 1 < _; first | omega | (simp <;> omega))
    have kc2 := fun o => hb.cell (p := ⟨w.heap.size + 1 + 1, o, none⟩) (by show w.heap.size + 1 + 1 < _; first | omega | (simp <;> omega))
    have kf0 := fun o => hb.frozen (p := ⟨w.heap.size + 1 + 1, o, none⟩) (by show w.heap.size + 1 + 1 < _; first | omega | (simp <;> omega))
    have hz := hb.size
    (try simp at hz)
    have kl0 : w.heap.size < w2.heap.size := by omega
    have kn0 : ¬ w.heap.size = w2.heap.size := by omega
    have km0 : ¬ w2.heap.size = w.heap.size := by omega
    have kl1 : w.heap.size + 1 < w2.heap.size := by omega
    have kn1 : ¬ w.heap.size + 1 = w2.heap.size := by omega
    have km1 : ¬ w2.heap.size = w.heap.size + 1 := by omega
    have kl2 : w.heap.size + 1 + 1 < w2.heap.size := by omega
    have kn2 : ¬ w.heap.size + 1 + 1 = w2.heap.size := by omega
    have km2 : ¬ w2.heap.size = w.heap.size + 1 + 1 := by omega
    have HB := Lib.hid (show Below w.heap.size w w2 from by exact HB.out.trans ((show Below _ _ _ from (Below.refl _ _)).trans (hb.mono (by first | omega | (simp <;> omega)))))
    have HR := Lib.hid ((show Room _ (w.heap.size + 1 + 1) 2 from HR.out).below hb (by first | omega | (simp <;> omega)))
    clear ho hb
    go_wp2_with fail
    refine (l3in_any (m.get 0) x.x (m.get 1) x.y _).mono ?_
    rintro e w3 ho
    obtain ⟨rfl, hb⟩ := ho.fn
    have kc0 := fun o => hb.cell (p := ⟨w.heap.size, o, none⟩) (by show w.heap.size < _; first | omega | (simp <;> omega))
    have kc1 := fun o => hb.cell (p := ⟨w.heap.size + 1, o, none⟩) (by show w.heap.size + 1 < _; first | omega | (simp <;> omega))
    have kc2 := fun o => hb.cell (p := ⟨w.heap.size + 1 + 1, o, none⟩) (by show w.heap.size + 1 + 1 < _; first | omega | (simp <;> omega))
    have kf0 := fun o => hb.frozen (p := ⟨w.heap.size + 1 + 1, o, none⟩) (by show w.heap.size + 1 + 1 < _; first | omega | (simp <;> omega))
    have hz := hb.size
    (try simp at hz)
    have kl0 : w.heap.size < w3.heap.size := by omega
    have kn0 : ¬ w.heap.size = w3.heap.size := by omega
    have km0 : ¬ w3.heap.size = w.heap.size := by omega
    have kl1 : w.heap.size + 1 < w3.heap.size := by omega
    have kn1 : ¬ w.heap.size + 1 = w3.heap.size := by omega
    have km1 : ¬ w3.heap.size = w.heap.size + 1 := by omega
    have kl2 : w.heap.size + 1 + 1 < w3.heap.size := by omega
    have kn2 : ¬ w.heap.size + 1 + 1 = w3.heap.size := by omega
    have km2 : ¬ w3.heap.size = w.heap.size + 1 + 1 := by omega
    have HB := Lib.hid (show Below w.heap.size w w3 from by exact HB.out.trans ((show Below _ _ _ from (Below.refl _ _)).trans (hb.mono (by first | omega | (simp <;> omega)))))
    have HR := Lib.hid ((show Room _ (w.heap.size + 1 + 1) 2 from HR.out).below hb (by first | omega | (simp <;> omega)))
    clear ho hb
    go_wp2_with fail
    refine (l3in_any (m.get 2) x.x (m.get 3) x.y _).mono ?_
    rintro e w4 ho
    obtain ⟨rfl, hb⟩ := ho.fn
    have kc0 := fun o => hb.cell (p := ⟨w.heap.size, o, none⟩) (by show w.heap.size < _; first | omega | (simp <;> omega))
    have kc1 := fun o => hb.cell (p := ⟨w.heap.size + 1, o, none⟩) (by show w.heap.size + 1 < _; first | omega | (simp <;> omega))
    have kc2 := fun o => hb.cell (p := ⟨w.heap.size + 1 + 1, o, none⟩) (by show w.heap.size + 1 + 1 < _; first | omega | (simp <;> omega))
    have kc3 := fun o => hb.cell (p := ⟨w3.heap.size, o, none⟩) (by show w3.heap.size < _; first | omega | (simp <;> omega))
    have kf0 := fun o => hb.frozen (p := ⟨w.heap.size + 1 + 1, o, none⟩) (by show w.heap.size + 1 + 1 < _; first | omega | (simp <;> omega))
    have hz := hb.size
    (try simp at hz)
    have kl0 : w.heap.size < w4.heap.size := by omega
    have kn0 : ¬ w.heap.size = w4.heap.size := by omega
    have km0 : ¬ w4.heap.size = w.heap.size := by omega
    have kl1 : w.heap.size + 1 < w4.heap.size := by omega
    have kn1 : ¬ w.heap.size + 1 = w4.heap.size := by omega
    have km1 : ¬ w4.heap.size = w.heap.size + 1 := by omega
    have kl2 : w.heap.size + 1 + 1 < w4.heap.size := by omega
    have kn2 : ¬ w.heap.size + 1 + 1 = w4.heap.size := by omega
    have km2 : ¬ w4.heap.size = w.heap.size + 1 + 1 := by omega
    have kl3 : w3.heap.size < w4.heap.size := by omega
    have kn3 : ¬ w3.heap.size = w4.heap.size := by omega
    have km3 : ¬ w4.heap.size = w3.heap.size := by omega
    have HB := Lib.hid (show Below w.heap.size w w4 from by exact HB.out.trans ((show Below _ _ _ from ((Below.refl _ _).alloc (by omega) _)).trans (hb.mono (by first | omega | (simp <;> omega)))))
    have HR := Lib.hid ((show Room _ (w.heap.size + 1 + 1) 2 from (HR.out.alloc (by omega) _)).below hb (by first | omega | (simp <;> omega)))
    clear ho hb
    go_wp2
    refine bodyPost_ret (v := .tuple #[.agg #[.int .i64 (fIn (m.get 0) x.x (m.get 1) x.y).1.re, .int .i64 (fIn (m.get 0) x.x (m.get 1) x.y).1.im, .int .i64 (fIn (m.get 0) x.x (m.get 1) x.y).1.den, .int .i64 (fIn (m.get 2) x.x (m.get 3) x.y).1.re, .int .i64 (fIn (m.get 2) x.x (m.get 3) x.y).1.im, .int .i64 (fIn (m.get 2) x.x (m.get 3) x.y).1.den], .bool true]) ?_ rfl (J2Out.yes (f := ⟨(fIn (m.get 0) x.x (m.get 1) x.y).1, (fIn (m.get 2) x.x (m.get 3) x.y).1⟩) (by rw [HG.out]) (by rw [HG.out]) ?_)
    · exact Eq.trans (results_cell_mid2 Tryd.results43 _ _ (w.heap.size + 1 + 1) [.int .i64 (fIn (m.get 0) x.x (m.get 1) x.y).1.re, .int .i64 (fIn (m.get 0) x.x (m.get 1) x.y).1.im, .int .i64 (fIn (m.get 0) x.x (m.get 1) x.y).1.den, .int .i64 (fIn (m.get 2) x.x (m.get 3) x.y).1.re, .int .i64 (fIn (m.get 2) x.x (m.get 3) x.y).1.im, .int .i64 (fIn (m.get 2) x.x (m.get 3) x.y).1.den] _ (by rfl) (by ((repeat' first | (with_reducible refine World.rangeAt_setCells_same _ (w.heap.size + 1 + 1) 0 [.int .i64 (fIn (m.get 0) x.x (m.get 1) x.y).1.re, .int .i64 (fIn (m.get 0) x.x (m.get 1) x.y).1.im, .int .i64 (fIn (m.get 0) x.x (m.get 1) x.y).1.den, .int .i64 (fIn (m.get 2) x.x (m.get 3) x.y).1.re, .int .i64 (fIn (m.get 2) x.x (m.get 3) x.y).1.im, .int .i64 (fIn (m.get 2) x.x (m.get 3) x.y).1.den] ?_) | (with_reducible refine World.rangeAt_alloc ?_ _) | (with_reducible refine (World.rangeAt_drew _ _ _ _).2 ?_)); first | exact HR.out.there | (have hh := fun W h => World.rangeAt_setCells_same W (w.heap.size + 1 + 1) 0 [.int .i64 (fIn (m.get 0) x.x (m.get 1) x.y).1.re, .int .i64 (fIn (m.get 0) x.x (m.get 1) x.y).1.im, .int .i64 (fIn (m.get 0) x.x (m.get 1) x.y).1.den, .int .i64 (fIn (m.get 2) x.x (m.get 3) x.y).1.re, .int .i64 (fIn (m.get 2) x.x (m.get 3) x.y).1.im, .int .i64 (fIn (m.get 2) x.x (m.get 3) x.y).1.den] h; simp only [World.setCells, Nat.zero_add, Nat.reduceAdd] at hh; exact hh _ HR.out.there))) Tryd.underlying37 rfl (by kernel_rfl)) rfl
    · (repeat' first | (with_reducible exact HB.out) | with_reducible refine setCells_below _ _ _ ?_ (by first | omega | (simp <;> omega)) | with_reducible refine Below.setCell ?_ (by show _ ≤ _; first | omega | (simp <;> omega) | simp) _ | with_reducible refine Below.alloc ?_ (by first | omega | (simp <;> omega)) _ | with_reducible apply Below.drew)
end Go.Proofs.YtcpdapfcbnhgaaaDoor
/- QA -/
namespace Go.Proofs.YtcpdapfcbnhgaaaDoor
open Pol

theorem mAp_parts {m : M4} {x o : J2} (h : mAp m x = (o, true)) : all4 vld m = true ∧ jv x = true ∧ fIn m.a x.x m.b x.y = (o.x, true) ∧ fIn m.c x.x m.d x.y = (o.y, true) := by
  unfold mAp at h
  split at h
  · next h1 =>
    split at h
    · next h2 =>
      split at h
      · next h3 =>
        simp only [Bool.and_eq_true] at h3
        obtain rfl := (Prod.mk.inj h).1
        exact ⟨h1, h2, pair_t h3.1, pair_t h3.2⟩
      · cases h
    · cases h
  · cases h
theorem mAp_no {m : M4} {x : J2} (h : (mAp m x).2 = false) : mAp m x = (j2z, false) := by
  unfold mAp at h ⊢
  split
  · next h1 =>
    rw [if_pos h1] at h
    split
    · next h2 =>
      rw [if_pos h2] at h
      split
      · next h3 => rw [if_pos h3] at h; cases h
      · rfl
    · rfl
  · rfl
theorem jPow_val {a : J2} {n : Fr} (h : jPow a = (n, true)) : vld n = true ∧ rv n = rv a.x * rv a.x + iv a.x * iv a.x + (rv a.y * rv a.y + iv a.y * iv a.y) ∧ iv n = 0 := by
  unfold jPow at h
  split at h
  · next h2 =>
    simp only [Bool.and_eq_true] at h2
    obtain ⟨-, -, r1, i1⟩ := fPower_ok.1 (pair_t h2.1)
    obtain ⟨-, -, r2, i2⟩ := fPower_ok.1 (pair_t h2.2)
    obtain ⟨-, -, v, r, i⟩ := fAdd_ok.1 h
    exact ⟨v, by rw [r, r1, r2], by rw [i, i1, i2]; grind⟩
  · cases h
theorem jIn_val {a b : J2} {n : Fr} (h : jIn a b = (n, true)) : vld n = true ∧ rv n = (rv a.x * rv b.x + iv a.x * iv b.x) + (rv a.y * rv b.y + iv a.y * iv b.y) ∧ iv n = (iv a.x * rv b.x - rv a.x * iv b.x) + (iv a.y * rv b.y - rv a.y * iv b.y) := by
  unfold jIn at h
  split at h
  · next hh =>
    simp only [Bool.and_eq_true, fMirror_snd] at hh
    rw [mirror_y hh.1, mirror_y hh.2] at h
    obtain ⟨v, r, i⟩ := fIn_ok h
    simp only [conj_rv, conj_iv] at r i
    exact ⟨v, by rw [r]; grind, by rw [i]; grind⟩
  · cases h
theorem law_keep {a : M4} {v o : J2} {n m : Fr} (h : gLos a = true) (ho : mAp a v = (o, true)) (hn : jPow o = (n, true)) (hm : jPow v = (m, true)) : n = m := by
  obtain ⟨h1, h2, h3, h4⟩ := gLos_val h
  obtain ⟨-, g1, g2, g3, g4⟩ := uni h1 h2 h3 h4
  obtain ⟨-, -, kx, ky⟩ := mAp_parts ho
  obtain ⟨-, rx, ix⟩ := fIn_ok kx
  obtain ⟨-, ry, iy⟩ := fIn_ok ky
  obtain ⟨vn, rn, jn⟩ := jPow_val hn
  obtain ⟨vm, rm, jm⟩ := jPow_val hm
  refine val_inj vn vm ?_ ?_
  · have e : rv n = (rv a.a * rv a.a + iv a.a * iv a.a + rv a.c * rv a.c + iv a.c * iv a.c) * (rv v.x * rv v.x + iv v.x * iv v.x) + (rv a.b * rv a.b + iv a.b * iv a.b + rv a.d * rv a.d + iv a.d * iv a.d) * (rv v.y * rv v.y + iv v.y * iv v.y)
        + 2 * ((rv a.a * rv a.b + iv a.a * iv a.b + rv a.c * rv a.d + iv a.c * iv a.d) * (rv v.x * rv v.y + iv v.x * iv v.y) + (rv a.a * iv a.b - iv a.a * rv a.b + rv a.c * iv a.d - iv a.c * rv a.d) * (iv v.x * rv v.y - rv v.x * iv v.y)) := by
      rw [rn, rx, ix, ry, iy]; grind
    rw [e, g1, g2, g3, g4, rm]; grind
  · rw [jn, jm]
theorem law_back {a : M4} {v o b : J2} {n x : Fr} (ho : mAp a v = (o, true)) (hb : mAp (mC a) o = (b, true)) (hn : jPow o = (n, true)) (hx : jIn v b = (x, true)) : x = n := by
  obtain ⟨-, -, kx, ky⟩ := mAp_parts ho
  obtain ⟨-, rx, ix⟩ := fIn_ok kx
  obtain ⟨-, ry, iy⟩ := fIn_ok ky
  obtain ⟨-, -, lx, ly⟩ := mAp_parts hb
  obtain ⟨-, sx, jx⟩ := fIn_ok lx
  obtain ⟨-, sy, jy⟩ := fIn_ok ly
  simp only [mC, conj_rv, conj_iv] at sx jx sy jy
  obtain ⟨vn, rn, jn⟩ := jPow_val hn
  obtain ⟨vx, rx', ix'⟩ := jIn_val hx
  refine val_inj vx vn ?_ ?_
  · have e : rv x = rv o.x * (rv a.a * rv v.x - iv a.a * iv v.x + (rv a.b * rv v.y - iv a.b * iv v.y)) + iv o.x * (rv a.a * iv v.x + iv a.a * rv v.x + (rv a.b * iv v.y + iv a.b * rv v.y)) + (rv o.y * (rv a.c * rv v.x - iv a.c * iv v.x + (rv a.d * rv v.y - iv a.d * iv v.y)) + iv o.y * (rv a.c * iv v.x + iv a.c * rv v.x + (rv a.d * iv v.y + iv a.d * rv v.y))) := by
      rw [rx', sx, jx, sy, jy]; grind
    rw [e, ← rx, ← ix, ← ry, ← iy, rn]
  · have e : iv x = rv o.x * (rv a.a * iv v.x + iv a.a * rv v.x + (rv a.b * iv v.y + iv a.b * rv v.y)) - iv o.x * (rv a.a * rv v.x - iv a.a * iv v.x + (rv a.b * rv v.y - iv a.b * iv v.y)) + (rv o.y * (rv a.c * iv v.x + iv a.c * rv v.x + (rv a.d * iv v.y + iv a.d * rv v.y)) - iv o.y * (rv a.c * rv v.x - iv a.c * iv v.x + (rv a.d * rv v.y - iv a.d * iv v.y))) := by
      rw [ix', sx, jx, sy, jy]; grind
    rw [e, ← rx, ← ix, ← ry, ← iy, jn]; grind
end Go.Proofs.YtcpdapfcbnhgaaaDoor
/- DM3 -/
namespace Go.Proofs.YtcpdapfcbnhgaaaDoor
open Go.RowKit Pol

theorem box2m {W : World} {X : Nat} {m : J2} (r : Room W X 2) : BoxAt (((((((W).setCell ⟨X, 0, none⟩ (.int .i64 m.x.re)).setCell ⟨X, 1, none⟩ (.int .i64 m.x.im)).setCell ⟨X, 2, none⟩ (.int .i64 m.x.den)).setCell ⟨X, 3, none⟩ (.int .i64 m.y.re)).setCell ⟨X, 4, none⟩ (.int .i64 m.y.im)).setCell ⟨X, 5, none⟩ (.int .i64 m.y.den)) X (j2k m) 2 := by
  show BoxAt (putF (putF W X 0 (j2k m 0)) X 1 (j2k m 1)) X (j2k m) 2
  exact BoxAt.put (g := j2k m) (k := 1) (BoxAt.put (g := j2k m) (k := 0) (fun _ hk => absurd hk (by omega)) r (by omega)) (r.put _ _ _) (by omega)
def SJOut (w : World) (e : Ending) (w' : World) : Prop := ∃ (a : M4) (b : J2), e = .returned (.tuple #[.agg #[.int .i64 a.a.re, .int .i64 a.a.im, .int .i64 a.a.den, .int .i64 a.b.re, .int .i64 a.b.im, .int .i64 a.b.den, .int .i64 a.c.re, .int .i64 a.c.im, .int .i64 a.c.den, .int .i64 a.d.re, .int .i64 a.d.im, .int .i64 a.d.den], .agg #[.int .i64 b.x.re, .int .i64 b.x.im, .int .i64 b.x.den, .int .i64 b.y.re, .int .i64 b.y.im, .int .i64 b.y.den]]) ∧ Below w.heap.size w w'
set_option maxRecDepth 100000 in
set_option maxHeartbeats 40000000 in
theorem DrawMatApply_any (a0 : Option Addr) (len cap : Nat) (w : World) (hc : len ≤ cap) (HC : Code w.heap.size w a0 len) :
    Calls Tryd.prog 42 #[.slice a0 len cap] w (SJOut w) := by
  have HM0 : Hid (Room ((w.alloc (.cells #[.int .i64 0, .int .i64 0, .int .i64 0, .int .i64 0, .int .i64 0, .int .i64 0, .int .i64 0, .int .i64 0, .int .i64 0, .int .i64 0, .int .i64 0, .int .i64 0] 45)).alloc (.cells #[.int .i64 0, .int .i64 0, .int .i64 0, .int .i64 0, .int .i64 0, .int .i64 0] 37)) w.heap.size 4) := by show Room _ _ _; exact (Room.new' rfl rfl).alloc (by simp) _
  have HM1 : Hid (Room ((w.alloc (.cells #[.int .i64 0, .int .i64 0, .int .i64 0, .int .i64 0, .int .i64 0, .int .i64 0, .int .i64 0, .int .i64 0, .int .i64 0, .int .i64 0, .int .i64 0, .int .i64 0] 45)).alloc (.cells #[.int .i64 0, .int .i64 0, .int .i64 0, .int .i64 0, .int .i64 0, .int .i64 0] 37)) (w.heap.size + 1) 2) := by show Room _ _ _; exact Room.new' (by simp) rfl
  have HB : Hid (Below w.heap.size w ((w.alloc (.cells #[.int .i64 0, .int .i64 0, .int .i64 0, .int .i64 0, .int .i64 0, .int .i64 0, .int .i64 0, .int .i64 0, .int .i64 0, .int .i64 0, .int .i64 0, .int .i64 0] 45)).alloc (.cells #[.int .i64 0, .int .i64 0, .int .i64 0, .int .i64 0, .int .i64 0, .int .i64 0] 37))) := by show Below _ _ _; (repeat' first | exact Below.refl _ _ | apply bl_alloc | apply bl_drewN | apply bl_drew | refine bl_trans ?_ (by assumption) | refine bl_set ?_ (by first | omega | (simp <;> omega)) _)
  have HC1 : Code w.heap.size ((w.alloc (.cells #[.int .i64 0, .int .i64 0, .int .i64 0, .int .i64 0, .int .i64 0, .int .i64 0, .int .i64 0, .int .i64 0, .int .i64 0, .int .i64 0, .int .i64 0, .int .i64 0] 45)).alloc (.cells #[.int .i64 0, .int .i64 0, .int .i64 0, .int .i64 0, .int .i64 0, .int .i64 0] 37)) a0 len := fun i hi => by
    obtain ⟨B, off, h1, h2, z, h3, h4, h5⟩ := HC i hi
    exact ⟨B, off, h1, h2, z, h3, h4, (World.cell?_alloc_old _ _ _ (by show B ≠ _; rw [World.size_alloc]; omega)).trans ((World.cell?_alloc_old _ _ _ (by show B ≠ w.heap.size; omega)).trans h5)⟩
  go_enter Tryd.func42, Tryd.ntmps42
  go_wp2_with fail
  refine (open_any w.heap.size a0 len cap _ (by simp) hc HC1).mono ?_
  rintro e w1 ⟨R, len', rfl, hb, hRb, hR⟩
  have HM0 := Lib.hid (HM0.out.below hb (by simp))
  have HM1 := Lib.hid (HM1.out.below hb (by simp))
  have HB := Lib.hid (show Below w.heap.size w w1 from HB.out.trans (hb.mono HB.out.size))
  have hz1 := hb.size
  (try simp at hz1)
  (try simp at hRb)
  have hRl := hR.lt
  clear hb
  go_wp2_with fail
  refine (l91Mat_v (by omega) hR).mono ?_
  rintro e w2 ⟨v, rfl, ⟨a, rfl⟩, hO, hR2⟩
  have hz2 := hO.size
  have HM0 := Lib.hid ((HM0.out.own hO (by omega) (by omega)).alloc (by omega) (.cells #[.int .i64 a.a.re, .int .i64 a.a.im, .int .i64 a.a.den, .int .i64 a.b.re, .int .i64 a.b.im, .int .i64 a.b.den, .int .i64 a.c.re, .int .i64 a.c.im, .int .i64 a.c.den, .int .i64 a.d.re, .int .i64 a.d.im, .int .i64 a.d.den] 45))
  have HM1 := Lib.hid ((HM1.out.own hO (by omega) (by omega)).alloc (by omega) (.cells #[.int .i64 a.a.re, .int .i64 a.a.im, .int .i64 a.a.den, .int .i64 a.b.re, .int .i64 a.b.im, .int .i64 a.b.den, .int .i64 a.c.re, .int .i64 a.c.im, .int .i64 a.c.den, .int .i64 a.d.re, .int .i64 a.d.im, .int .i64 a.d.den] 45))
  have HB := Lib.hid ((hO.mine HB.out (by omega)).alloc (by omega) (.cells #[.int .i64 a.a.re, .int .i64 a.a.im, .int .i64 a.a.den, .int .i64 a.b.re, .int .i64 a.b.im, .int .i64 a.b.den, .int .i64 a.c.re, .int .i64 a.c.im, .int .i64 a.c.den, .int .i64 a.d.re, .int .i64 a.d.im, .int .i64 a.d.den] 45))
  have HX : Hid (BoxAt (w2.alloc (.cells #[.int .i64 a.a.re, .int .i64 a.a.im, .int .i64 a.a.den, .int .i64 a.b.re, .int .i64 a.b.im, .int .i64 a.b.den, .int .i64 a.c.re, .int .i64 a.c.im, .int .i64 a.c.den, .int .i64 a.d.re, .int .i64 a.d.im, .int .i64 a.d.den] 45)) w2.heap.size a.get 4) := by show BoxAt _ _ _ _; exact BoxAt.new _ _ _ _ _ (src4 a)
  have HR := Lib.hid (hR2.alloc (.cells #[.int .i64 a.a.re, .int .i64 a.a.im, .int .i64 a.a.den, .int .i64 a.b.re, .int .i64 a.b.im, .int .i64 a.b.den, .int .i64 a.c.re, .int .i64 a.c.im, .int .i64 a.c.den, .int .i64 a.d.re, .int .i64 a.d.im, .int .i64 a.d.den] 45))
  clear hR hO hR2
  obtain ⟨V, hV⟩ : ∃ V, V = w2.alloc (.cells #[.int .i64 a.a.re, .int .i64 a.a.im, .int .i64 a.a.den, .int .i64 a.b.re, .int .i64 a.b.im, .int .i64 a.b.den, .int .i64 a.c.re, .int .i64 a.c.im, .int .i64 a.c.den, .int .i64 a.d.re, .int .i64 a.d.im, .int .i64 a.d.den] 45) := ⟨_, rfl⟩
  have hzV : V.heap.size = w2.heap.size + 1 := by rw [hV]; simp
  rw [← hV] at HM0 HM1 HB HX HR
  go_wp2
  rw [← hV]
  clear hV
  have nA : ¬ w2.heap.size = w.heap.size := by omega
  have nB : ¬ w2.heap.size = w.heap.size + 1 := by omega
  have nC : ¬ w.heap.size = w2.heap.size := by omega
  have nD : ¬ w.heap.size + 1 = w2.heap.size := by omega
  obtain ⟨y0_0, e0_0⟩ := Option.isSome_iff_exists.1 (HM0.out 0 (by omega)).1
  have f0_0 := (HM0.out 0 (by omega)).2
  obtain ⟨y0_1, e0_1⟩ := Option.isSome_iff_exists.1 (HM0.out 1 (by omega)).1
  have f0_1 := (HM0.out 1 (by omega)).2
  obtain ⟨y0_2, e0_2⟩ := Option.isSome_iff_exists.1 (HM0.out 2 (by omega)).1
  have f0_2 := (HM0.out 2 (by omega)).2
  obtain ⟨y0_3, e0_3⟩ := Option.isSome_iff_exists.1 (HM0.out 3 (by omega)).1
  have f0_3 := (HM0.out 3 (by omega)).2
  obtain ⟨y0_4, e0_4⟩ := Option.isSome_iff_exists.1 (HM0.out 4 (by omega)).1
  have f0_4 := (HM0.out 4 (by omega)).2
  obtain ⟨y0_5, e0_5⟩ := Option.isSome_iff_exists.1 (HM0.out 5 (by omega)).1
  have f0_5 := (HM0.out 5 (by omega)).2
  obtain ⟨y0_6, e0_6⟩ := Option.isSome_iff_exists.1 (HM0.out 6 (by omega)).1
  have f0_6 := (HM0.out 6 (by omega)).2
  obtain ⟨y0_7, e0_7⟩ := Option.isSome_iff_exists.1 (HM0.out 7 (by omega)).1
  have f0_7 := (HM0.out 7 (by omega)).2
  obtain ⟨y0_8, e0_8⟩ := Option.isSome_iff_exists.1 (HM0.out 8 (by omega)).1
  have f0_8 := (HM0.out 8 (by omega)).2
  obtain ⟨y0_9, e0_9⟩ := Option.isSome_iff_exists.1 (HM0.out 9 (by omega)).1
  have f0_9 := (HM0.out 9 (by omega)).2
  obtain ⟨y0_10, e0_10⟩ := Option.isSome_iff_exists.1 (HM0.out 10 (by omega)).1
  have f0_10 := (HM0.out 10 (by omega)).2
  obtain ⟨y0_11, e0_11⟩ := Option.isSome_iff_exists.1 (HM0.out 11 (by omega)).1
  have f0_11 := (HM0.out 11 (by omega)).2
  obtain ⟨y1_0, e1_0⟩ := Option.isSome_iff_exists.1 (HM1.out 0 (by omega)).1
  have f1_0 := (HM1.out 0 (by omega)).2
  obtain ⟨y1_1, e1_1⟩ := Option.isSome_iff_exists.1 (HM1.out 1 (by omega)).1
  have f1_1 := (HM1.out 1 (by omega)).2
  obtain ⟨y1_2, e1_2⟩ := Option.isSome_iff_exists.1 (HM1.out 2 (by omega)).1
  have f1_2 := (HM1.out 2 (by omega)).2
  obtain ⟨y1_3, e1_3⟩ := Option.isSome_iff_exists.1 (HM1.out 3 (by omega)).1
  have f1_3 := (HM1.out 3 (by omega)).2
  obtain ⟨y1_4, e1_4⟩ := Option.isSome_iff_exists.1 (HM1.out 4 (by omega)).1
  have f1_4 := (HM1.out 4 (by omega)).2
  obtain ⟨y1_5, e1_5⟩ := Option.isSome_iff_exists.1 (HM1.out 5 (by omega)).1
  have f1_5 := (HM1.out 5 (by omega)).2
  go_cut [] (fun wx => ∃ b : J2, Below w.heap.size w wx ∧ BoxAt wx w.heap.size a.get 4 ∧ BoxAt wx (w.heap.size + 1) (j2k b) 2)
  case first =>
    go_region_held3 (fun w' => w'.cell? ⟨w2.heap.size, 0, none⟩ = some (.int .i64 a.a.re) ∧ w'.cell? ⟨w2.heap.size, 1, none⟩ = some (.int .i64 a.a.im) ∧ w'.cell? ⟨w2.heap.size, 2, none⟩ = some (.int .i64 a.a.den) ∧ w'.cell? ⟨w2.heap.size, 3, none⟩ = some (.int .i64 a.b.re) ∧ w'.cell? ⟨w2.heap.size, 4, none⟩ = some (.int .i64 a.b.im) ∧ w'.cell? ⟨w2.heap.size, 5, none⟩ = some (.int .i64 a.b.den) ∧ w'.cell? ⟨w2.heap.size, 6, none⟩ = some (.int .i64 a.c.re) ∧ w'.cell? ⟨w2.heap.size, 7, none⟩ = some (.int .i64 a.c.im) ∧ w'.cell? ⟨w2.heap.size, 8, none⟩ = some (.int .i64 a.c.den) ∧ w'.cell? ⟨w2.heap.size, 9, none⟩ = some (.int .i64 a.d.re) ∧ w'.cell? ⟨w2.heap.size, 10, none⟩ = some (.int .i64 a.d.im) ∧ w'.cell? ⟨w2.heap.size, 11, none⟩ = some (.int .i64 a.d.den)) (((try dsimp only); (with_reducible refine BoxAt.q12 ?_); (focus ((repeat' first | (with_reducible exact HX.out) | (with_reducible refine BoxAt.drewN' ?_) | (with_reducible refine BoxAt.far' ?_ ?_; rotate_left; (focus (first | omega | (simp <;> omega)))) | (with_reducible refine BoxAt.own ?_ HS1.out ?_ ?_; rotate_left; (focus (first | omega | (simp <;> omega))); (focus (first | omega | (simp <;> omega))))); done)))) (first | (go_at_call 90; (with_reducible refine Calls.mono (l91Jones_any (N := w.heap.size) (R := R) (a0 := a0) (len := len') (cap := cap) (k := 0 + 100) (Nat.le_of_ble_eq_true rfl) ?_) ?_); (focus ((repeat' first | (with_reducible exact HR.out) | (with_reducible refine Rd.drew ?_) | (with_reducible refine Rd.puts' ?_ ?_; rotate_left; (focus (first | omega | (simp <;> omega))))); done)); rintro e w5 ⟨v, rfl, ⟨b, rfl⟩, hO, hR⟩; have HS1 := Lib.hid hO; have hz5 := hO.size; (try simp at hz5); obtain ⟨BB, hBB, hcc, hff⟩ := hO.out2; (try simp at hBB); (first | (rcases Nat.lt_or_ge (w.heap.size) BB with hlt | hlt; rotate_left; (exfalso; omega); have yc := hcc (w.heap.size) hlt (by omega); have yf := hff (w.heap.size) hlt (by omega); clear hlt) | skip); (first | (rcases Nat.lt_or_ge (w.heap.size + 1) BB with hlt | hlt; rotate_left; (exfalso; omega); have yc := hcc (w.heap.size + 1) hlt (by omega); have yf := hff (w.heap.size + 1) hlt (by omega); clear hlt) | skip); (first | (rcases Nat.lt_or_ge (w2.heap.size) BB with hlt | hlt; rotate_left; (exfalso; omega); have yc := hcc (w2.heap.size) hlt (by omega); have yf := hff (w2.heap.size) hlt (by omega); clear hlt) | skip); clear hBB hcc hff hO hR))
    all_goals (go_wp2_with fail; go_meet)
    have r0 : Room w5 w.heap.size 4 := (show Room V.drew _ _ from HM0.out).own HS1.out (by show _ < V.heap.size; omega) (by omega)
    have r1 : Room w5 (w.heap.size + 1) 2 := (show Room V.drew _ _ from HM1.out).own HS1.out (by show _ < V.heap.size; omega) (by omega)
    have hB5 : Below w.heap.size w w5 := Own.mine HS1.out (show Below _ _ V.drew from HB.out.drew) (by omega)
    refine ⟨b, ?_, ?_, ?_⟩
    · iterate 18 refine Below.setCell ?_ (by show _ ≤ _; first | exact Nat.le_refl _ | exact Nat.le_succ _) _
      exact hB5
    · iterate 6 refine BoxAt.far' ?_ (by omega)
      exact box4 r0
    · refine box2m ?_
      iterate 12 refine Room.far' ?_ _ _
      exact r1
  case rest =>
  obtain ⟨b, hB, h0, h1⟩ := hcut
  have k0 := h0.q12
  have k1 := h1.j6
  go_wp2
  refine bodyPost_ret (v := .tuple #[.agg #[.int .i64 a.a.re, .int .i64 a.a.im, .int .i64 a.a.den, .int .i64 a.b.re, .int .i64 a.b.im, .int .i64 a.b.den, .int .i64 a.c.re, .int .i64 a.c.im, .int .i64 a.c.den, .int .i64 a.d.re, .int .i64 a.d.im, .int .i64 a.d.den], .agg #[.int .i64 b.x.re, .int .i64 b.x.im, .int .i64 b.x.den, .int .i64 b.y.re, .int .i64 b.y.im, .int .i64 b.y.den]]) (by simp [results, Tryd.results42, go_sem, *]) rfl ⟨a, b, rfl, hB⟩
end Go.Proofs.YtcpdapfcbnhgaaaDoor
