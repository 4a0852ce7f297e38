/- Contracts: determinants. -/
import Derived.Test.YtmcokdiopcpifaaDoorF
import Derived.Test.YtmcokdiopcpifaaDoorI
set_option maxRecDepth 100000
namespace Go.Proofs.YtmcokdiopcpifaaDoor
open Go.RowKit Pol

set_option maxHeartbeats 4000000 in
theorem imatdet_any (m : M4) (w : World) :
    Calls Tryd.prog 54 #[.agg #[.int .i64 m.a.re, .int .i64 m.a.im, .int .i64 m.a.den, .int .i64 m.b.re, .int .i64 m.b.im, .int .i64 m.b.den, .int .i64 m.c.re, .int .i64 m.c.im, .int .i64 m.c.den, .int .i64 m.d.re, .int .i64 m.d.im, .int .i64 m.d.den]] w (FrOut (gDet m) w) := by
  cases hg : (gDet m).2
  · have HE := Lib.hid ((ends (gDet_end m).1).1 hg)
    have HG := Lib.hid hg; clear hg
    go_enter Tryd.func54, Tryd.ntmps54
    go_wp2_with fail
    refine (imatvalid_any m _).mono ?_
    rintro e w1 ⟨rfl, hb⟩
    obtain ⟨hc, hf, hz⟩ := bcellk (B := w.heap.size + 1 + 1 + 1) hb (by first | omega | (simp <;> omega))
    have hsc : w1.cell? ⟨w.heap.size + 1 + 1, 0, none⟩ = some (.bool false) := by simp [hc, go_sem]
    have hsf : w1.frozen? ⟨w.heap.size + 1 + 1, 0, none⟩ = false := by simp [hf, go_sem]
    have hbw : Below w.heap.size w w1 := by (repeat' first | exact Below.refl _ _ | apply bl_alloc | apply bl_drewN | apply bl_drew | refine bl_trans ?_ (by assumption) | refine bl_set ?_ (by first | omega | (simp <;> omega)) _)
    have HB := Lib.hid hbw; clear hbw hb
    go_wp2_with fail
    refine (need_any (w.heap.size + 1 + 1) false (all4 vld m) w1 (by omega) hsc hsf).mono ?_
    rintro e w2 ho
    obtain ⟨rfl, hs⟩ := ho.fn
    clear hsc hsf
    have HB := Lib.hid (show Below w.heap.size w w2 from hs.own HB.out (by omega))
    have hc := hs.atc (w.heap.size) (by first | omega | (simp <;> omega)) (by omega); have hcr := hs.atc (w.heap.size + 1) (by first | omega | (simp <;> omega)) (by omega); have hfr := hs.atf (w.heap.size + 1) (by first | omega | (simp <;> omega)) (by omega); have hz : w.heap.size + 1 + 1 + 1 ≤ _ := Nat.le_trans (by first | omega | (simp <;> omega)) hs.size; have hsc := hs.cell; have hsf := hs.free
    clear ho hs
    go_wp2
    have hsc : w2.drew.cell? ⟨w.heap.size + 1 + 1, 0, none⟩ = _ := hsc
    have hsf : w2.drew.frozen? ⟨w.heap.size + 1 + 1, 0, none⟩ = _ := hsf
    go_region_held3 (fun w' => w'.cell? ⟨w.heap.size, 0, none⟩ = some (.int .i64 m.a.re) ∧ w'.cell? ⟨w.heap.size, 1, none⟩ = some (.int .i64 m.a.im) ∧ w'.cell? ⟨w.heap.size, 2, none⟩ = some (.int .i64 m.a.den) ∧ w'.cell? ⟨w.heap.size, 3, none⟩ = some (.int .i64 m.b.re) ∧ w'.cell? ⟨w.heap.size, 4, none⟩ = some (.int .i64 m.b.im) ∧ w'.cell? ⟨w.heap.size, 5, none⟩ = some (.int .i64 m.b.den) ∧ w'.cell? ⟨w.heap.size, 6, none⟩ = some (.int .i64 m.c.re) ∧ w'.cell? ⟨w.heap.size, 7, none⟩ = some (.int .i64 m.c.im) ∧ w'.cell? ⟨w.heap.size, 8, none⟩ = some (.int .i64 m.c.den) ∧ w'.cell? ⟨w.heap.size, 9, none⟩ = some (.int .i64 m.d.re) ∧ w'.cell? ⟨w.heap.size, 10, none⟩ = some (.int .i64 m.d.im) ∧ w'.cell? ⟨w.heap.size, 11, none⟩ = some (.int .i64 m.d.den))
      (first | go_keep | (simp [*]; done))
      (first
        | (go_at_call 80; (with_reducible refine (stimes_any _ _ _ _ _ (by first | omega | (simp <;> omega)) hsc hsf).mono ?_); rintro e w3 ho; obtain ⟨rfl, hs⟩ := ho.fn; have HB := Lib.hid (show Below w.heap.size w w3 from by first | exact hs.own HB.out (by omega) | exact hs.own HB.out.drew (by omega)); have hc := hs.atc (w.heap.size) (by first | omega | (simp <;> omega)) (by omega); have hcr := hs.atc (w.heap.size + 1) (by first | omega | (simp <;> omega)) (by omega); have hfr := hs.atf (w.heap.size + 1) (by first | omega | (simp <;> omega)) (by omega); have hz : w.heap.size + 1 + 1 + 1 ≤ _ := Nat.le_trans (by first | omega | (simp <;> omega)) hs.size; have hsc := hs.cell; have hsf := hs.free; clear ho hs)
        | (go_at_call 79; (with_reducible refine (sless_any _ _ _ _ _ (by first | omega | (simp <;> omega)) hsc hsf).mono ?_); rintro e w3 ho; obtain ⟨rfl, hs⟩ := ho.fn; have HB := Lib.hid (show Below w.heap.size w w3 from by first | exact hs.own HB.out (by omega) | exact hs.own HB.out.drew (by omega)); have hc := hs.atc (w.heap.size) (by first | omega | (simp <;> omega)) (by omega); have hcr := hs.atc (w.heap.size + 1) (by first | omega | (simp <;> omega)) (by omega); have hfr := hs.atf (w.heap.size + 1) (by first | omega | (simp <;> omega)) (by omega); have hz : w.heap.size + 1 + 1 + 1 ≤ _ := Nat.le_trans (by first | omega | (simp <;> omega)) hs.size; have hsc := hs.cell; have hsf := hs.free; clear ho hs)
        | (go_at_call 88; (with_reducible refine (gotFrac_no (w.heap.size + 1 + 1) _ _ (by omega) (hsc.trans (congrArg (fun x => some (Value.bool x)) HE.out))).mono ?_); rintro e w4 ⟨rfl, hb⟩; have HB := Lib.hid (show Below w.heap.size w w4 from HB.out.trans (hb.mono HB.out.size)); obtain ⟨hc, hf, hz⟩ := bcellk (B := w.heap.size + 1 + 1 + 1) hb (by first | omega | (simp <;> omega)); clear hb))
    go_wp2
    refine bodyPost_ret (v := .tuple #[.agg #[.int .i64 0, .int .i64 0, .int .i64 0], .bool false]) (by simp [results, Tryd.results54, go_sem, *]) rfl (FrOut.no (gDet_no m HG.out) ?_)
    exact ((HB.out.setCell (by simp) _).setCell (by simp) _).setCell (by simp) _
  · have HE := Lib.hid ((ends (gDet_end m).1).2 hg)
    have HV := Lib.hid ((gDet_end m).2 hg)
    have HG := Lib.hid hg; clear hg
    go_enter Tryd.func54, Tryd.ntmps54
    go_wp2_with fail
    refine (imatvalid_any m _).mono ?_
    rintro e w1 ⟨rfl, hb⟩
    obtain ⟨hc, hf, hz⟩ := bcellk (B := w.heap.size + 1 + 1 + 1) hb (by first | omega | (simp <;> omega))
    have hsc : w1.cell? ⟨w.heap.size + 1 + 1, 0, none⟩ = some (.bool false) := by simp [hc, go_sem]
    have hsf : w1.frozen? ⟨w.heap.size + 1 + 1, 0, none⟩ = false := by simp [hf, go_sem]
    have hbw : Below w.heap.size w w1 := by (repeat' first | exact Below.refl _ _ | apply bl_alloc | apply bl_drewN | apply bl_drew | refine bl_trans ?_ (by assumption) | refine bl_set ?_ (by first | omega | (simp <;> omega)) _)
    have HB := Lib.hid hbw; clear hbw hb
    go_wp2_with fail
    refine (need_any (w.heap.size + 1 + 1) false (all4 vld m) w1 (by omega) hsc hsf).mono ?_
    rintro e w2 ho
    obtain ⟨rfl, hs⟩ := ho.fn
    clear hsc hsf
    have HB := Lib.hid (show Below w.heap.size w w2 from hs.own HB.out (by omega))
    have hc := hs.atc (w.heap.size) (by first | omega | (simp <;> omega)) (by omega); have hcr := hs.atc (w.heap.size + 1) (by first | omega | (simp <;> omega)) (by omega); have hfr := hs.atf (w.heap.size + 1) (by first | omega | (simp <;> omega)) (by omega); have hz : w.heap.size + 1 + 1 + 1 ≤ _ := Nat.le_trans (by first | omega | (simp <;> omega)) hs.size; have hsc := hs.cell; have hsf := hs.free
    clear ho hs
    go_wp2
    have hsc : w2.drew.cell? ⟨w.heap.size + 1 + 1, 0, none⟩ = _ := hsc
    have hsf : w2.drew.frozen? ⟨w.heap.size + 1 + 1, 0, none⟩ = _ := hsf
    go_region_held3 (fun w' => w'.cell? ⟨w.heap.size, 0, none⟩ = some (.int .i64 m.a.re) ∧ w'.cell? ⟨w.heap.size, 1, none⟩ = some (.int .i64 m.a.im) ∧ w'.cell? ⟨w.heap.size, 2, none⟩ = some (.int .i64 m.a.den) ∧ w'.cell? ⟨w.heap.size, 3, none⟩ = some (.int .i64 m.b.re) ∧ w'.cell? ⟨w.heap.size, 4, none⟩ = some (.int .i64 m.b.im) ∧ w'.cell? ⟨w.heap.size, 5, none⟩ = some (.int .i64 m.b.den) ∧ w'.cell? ⟨w.heap.size, 6, none⟩ = some (.int .i64 m.c.re) ∧ w'.cell? ⟨w.heap.size, 7, none⟩ = some (.int .i64 m.c.im) ∧ w'.cell? ⟨w.heap.size, 8, none⟩ = some (.int .i64 m.c.den) ∧ w'.cell? ⟨w.heap.size, 9, none⟩ = some (.int .i64 m.d.re) ∧ w'.cell? ⟨w.heap.size, 10, none⟩ = some (.int .i64 m.d.im) ∧ w'.cell? ⟨w.heap.size, 11, none⟩ = some (.int .i64 m.d.den))
      (first | go_keep | (simp [*]; done))
      (first
        | (go_at_call 80; (with_reducible refine (stimes_any _ _ _ _ _ (by first | omega | (simp <;> omega)) hsc hsf).mono ?_); rintro e w3 ho; obtain ⟨rfl, hs⟩ := ho.fn; have HB := Lib.hid (show Below w.heap.size w w3 from by first | exact hs.own HB.out (by omega) | exact hs.own HB.out.drew (by omega)); have hc := hs.atc (w.heap.size) (by first | omega | (simp <;> omega)) (by omega); have hcr := hs.atc (w.heap.size + 1) (by first | omega | (simp <;> omega)) (by omega); have hfr := hs.atf (w.heap.size + 1) (by first | omega | (simp <;> omega)) (by omega); have hz : w.heap.size + 1 + 1 + 1 ≤ _ := Nat.le_trans (by first | omega | (simp <;> omega)) hs.size; have hsc := hs.cell; have hsf := hs.free; clear ho hs)
        | (go_at_call 79; (with_reducible refine (sless_any _ _ _ _ _ (by first | omega | (simp <;> omega)) hsc hsf).mono ?_); rintro e w3 ho; obtain ⟨rfl, hs⟩ := ho.fn; have HB := Lib.hid (show Below w.heap.size w w3 from by first | exact hs.own HB.out (by omega) | exact hs.own HB.out.drew (by omega)); have hc := hs.atc (w.heap.size) (by first | omega | (simp <;> omega)) (by omega); have hcr := hs.atc (w.heap.size + 1) (by first | omega | (simp <;> omega)) (by omega); have hfr := hs.atf (w.heap.size + 1) (by first | omega | (simp <;> omega)) (by omega); have hz : w.heap.size + 1 + 1 + 1 ≤ _ := Nat.le_trans (by first | omega | (simp <;> omega)) hs.size; have hsc := hs.cell; have hsf := hs.free; clear ho hs)
        | (go_at_call 88; (with_reducible refine (gotFrac_yes (w.heap.size + 1 + 1) _ _ (by omega) (hsc.trans (congrArg (fun x => some (Value.bool x)) HE.out))).mono ?_); rintro e w4 ⟨rfl, hb⟩; have HB := Lib.hid (show Below w.heap.size w w4 from HB.out.trans (hb.mono HB.out.size)); obtain ⟨hc, hf, hz⟩ := bcellk (B := w.heap.size + 1 + 1 + 1) hb (by first | omega | (simp <;> omega)); clear hb))
    go_wp2
    refine bodyPost_ret (v := .tuple #[.agg #[.int .i64 (fLess (fTimes m.a m.d).1 (fTimes m.b m.c).1).1.re, .int .i64 (fLess (fTimes m.a m.d).1 (fTimes m.b m.c).1).1.im, .int .i64 (fLess (fTimes m.a m.d).1 (fTimes m.b m.c).1).1.den], .bool true]) (by simp [results, Tryd.results54, go_sem, *]) rfl (FrOut.yes HG.out HV.out ?_)
    exact ((HB.out.setCell (by simp) _).setCell (by simp) _).setCell (by simp) _
end Go.Proofs.YtmcokdiopcpifaaDoor
