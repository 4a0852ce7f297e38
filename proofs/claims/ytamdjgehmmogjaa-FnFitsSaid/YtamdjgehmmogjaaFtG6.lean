/- Contracts: draws of a vector. -/
import Derived.Test.YtamdjgehmmogjaaFtG4
import Derived.Test.YtamdjgehmmogjaaFtE
import Derived.Test.YtamdjgehmmogjaaFtG0
set_option maxRecDepth 100000
namespace Go.Proofs.Ytamdjgehmmogjaa
open Go.RowKit Pol
def J2Dr (w : World) (e : Ending) (w' : World) : Prop := ∃ m : J2, e = .returned (.agg #[.int .i64 m.x.re, .int .i64 m.x.im, .int .i64 m.x.den, .int .i64 m.y.re, .int .i64 m.y.im, .int .i64 m.y.den]) ∧ Below w.heap.size w w'
set_option maxRecDepth 100000 in
set_option maxHeartbeats 8000000 in
theorem DrawJonesFits_any (a0 : Option Addr) (len cap : Nat) (w : World) (hc : len ≤ cap) (HC : Code w.heap.size w a0 len) :
    Calls Try.prog 16 #[.slice a0 len cap] w (J2Dr w) := by
  have HM0 : Hid (Room (w.alloc (.cells #[.int .i64 0, .int .i64 0, .int .i64 0, .int .i64 0, .int .i64 0, .int .i64 0] 26)) w.heap.size 2) := by show Room _ _ _; exact Room.new' rfl rfl
  have HB : Hid (Below w.heap.size w (w.alloc (.cells #[.int .i64 0, .int .i64 0, .int .i64 0, .int .i64 0, .int .i64 0, .int .i64 0] 26))) := by show Below _ _ _; (repeat' first | exact Below.refl _ _ | apply bl_alloc | apply bl_drewN | apply bl_drew | refine bl_trans ?_ (by assumption) | refine bl_set ?_ (by first | omega | (simp <;> omega)) _)
  have HC1 : Code w.heap.size (w.alloc (.cells #[.int .i64 0, .int .i64 0, .int .i64 0, .int .i64 0, .int .i64 0, .int .i64 0] 26)) a0 len := fun i hi => by
    obtain ⟨B, off, h1, h2, z, h3, h4, h5⟩ := HC i hi
    exact ⟨B, off, h1, h2, z, h3, h4, (World.cell?_alloc_old _ _ _ (by show B ≠ w.heap.size; omega)).trans h5⟩
  go_enter Try.func16, Try.ntmps16
  go_wp2_with fail
  refine (open_any w.heap.size a0 len cap _ (by simp) hc HC1).mono ?_
  rintro e w1 ⟨R, len', rfl, hb, hRb, hR⟩
  have HM0 := Lib.hid (HM0.out.below hb (by simp))
  have HB := Lib.hid (show Below w.heap.size w w1 from HB.out.trans (hb.mono HB.out.size))
  have hz1 := hb.size
  (try simp at hz1)
  (try simp at hRb)
  have hRl := hR.lt
  clear hb
  go_wp2_with fail
  refine (l91Jones_any (by omega) hR).mono ?_
  rintro e w2 ⟨v, rfl, ⟨m, rfl⟩, hO, hR2⟩
  have HM0 := Lib.hid (HM0.out.own hO (by omega) (by omega))
  have HB := Lib.hid (hO.mine HB.out (by omega))
  clear hR hR2 hO
  obtain ⟨y0, e0⟩ := Option.isSome_iff_exists.1 (HM0.out 0 (by omega)).1
  have f0 := (HM0.out 0 (by omega)).2
  obtain ⟨y1, e1⟩ := Option.isSome_iff_exists.1 (HM0.out 1 (by omega)).1
  have f1 := (HM0.out 1 (by omega)).2
  obtain ⟨y2, e2⟩ := Option.isSome_iff_exists.1 (HM0.out 2 (by omega)).1
  have f2 := (HM0.out 2 (by omega)).2
  obtain ⟨y3, e3⟩ := Option.isSome_iff_exists.1 (HM0.out 3 (by omega)).1
  have f3 := (HM0.out 3 (by omega)).2
  obtain ⟨y4, e4⟩ := Option.isSome_iff_exists.1 (HM0.out 4 (by omega)).1
  have f4 := (HM0.out 4 (by omega)).2
  obtain ⟨y5, e5⟩ := Option.isSome_iff_exists.1 (HM0.out 5 (by omega)).1
  have f5 := (HM0.out 5 (by omega)).2
  go_wp2
  refine bodyPost_ret (v := .agg #[.int .i64 m.x.re, .int .i64 m.x.im, .int .i64 m.x.den, .int .i64 m.y.re, .int .i64 m.y.im, .int .i64 m.y.den]) (by simp [results, Try.results16, go_sem, *]) rfl ⟨m, rfl, ?_⟩
  iterate 6 refine Below.setCell ?_ (by show _ ≤ _; exact Nat.le_refl _) _
  exact HB.out
end Go.Proofs.Ytamdjgehmmogjaa
namespace Go.Proofs.Ytamdjgehmmogjaa
open Pol
def fConj (a : Fr) : Fr := ⟨a.re, -a.im, a.den⟩
theorem conj_vld (a : Fr) : vld (fConj a) = vld a := vld_mirror a
theorem mirror_y {a : Fr} (h : vld a = true) : fMirror a = (fConj a, true) := by unfold fMirror; rw [if_pos h]; rfl
def jConj (a : J2) : J2 := ⟨fConj a.x, fConj a.y⟩
theorem jMir_y {a : J2} (h : jv a = true) : jMir a = (jConj a, true) := by
  obtain ⟨h1, h2⟩ := jv_iff.1 h
  unfold jMir j2of
  rw [mirror_y h1, mirror_y h2]; rfl
theorem jConj_v {a : J2} (h : jv a = true) : jv (jConj a) = true := by
  obtain ⟨h1, h2⟩ := jv_iff.1 h
  exact jv_iff.2 ⟨(conj_vld _).trans h1, (conj_vld _).trans h2⟩
end Go.Proofs.Ytamdjgehmmogjaa
namespace Go.Proofs.Ytamdjgehmmogjaa
open Go.RowKit Pol
set_option maxRecDepth 100000 in
set_option maxHeartbeats 8000000 in
theorem ijmir_no (a : J2) (hg : (jMirI a).2 = false) (w : World) :
    Calls Try.prog 19 #[.agg #[.int .i64 a.x.re, .int .i64 a.x.im, .int .i64 a.x.den, .int .i64 a.y.re, .int .i64 a.y.im, .int .i64 a.y.den]] w (J2Out (jMirI a) w) := by
  have HE := Lib.hid ((ends (gt_end _ _ _).1).1 hg)
  have HG := Lib.hid hg; clear hg
  have HB : Hid (Below w.heap.size w (((w.alloc (.cells #[.int .i64 a.x.re, .int .i64 a.x.im, .int .i64 a.x.den, .int .i64 a.y.re, .int .i64 a.y.im, .int .i64 a.y.den] 26)).alloc (.cells #[.int .i64 0, .int .i64 0, .int .i64 0, .int .i64 0, .int .i64 0, .int .i64 0] 26)).alloc (.cells #[.bool false] 57)).drew) := by
    show Below _ _ _
    (repeat' first | exact Below.refl _ _ | apply bl_alloc | apply bl_drewN | apply bl_drew | refine bl_trans ?_ (by assumption) | refine bl_set ?_ (by first | omega | (simp <;> omega)) _)
  have HR : Hid (Room (((w.alloc (.cells #[.int .i64 a.x.re, .int .i64 a.x.im, .int .i64 a.x.den, .int .i64 a.y.re, .int .i64 a.y.im, .int .i64 a.y.den] 26)).alloc (.cells #[.int .i64 0, .int .i64 0, .int .i64 0, .int .i64 0, .int .i64 0, .int .i64 0] 26)).alloc (.cells #[.bool false] 57)).drew (w.heap.size + 1) 2) := by
    show Room _ _ _
    exact (Room.new' (by simp) rfl).alloc (by simp) _
  have hsc : (((w.alloc (.cells #[.int .i64 a.x.re, .int .i64 a.x.im, .int .i64 a.x.den, .int .i64 a.y.re, .int .i64 a.y.im, .int .i64 a.y.den] 26)).alloc (.cells #[.int .i64 0, .int .i64 0, .int .i64 0, .int .i64 0, .int .i64 0, .int .i64 0] 26)).alloc (.cells #[.bool false] 57)).drew.cell? ⟨w.heap.size + 1 + 1, 0, none⟩ = some (.bool false) := by simp [go_sem]
  have hsf : (((w.alloc (.cells #[.int .i64 a.x.re, .int .i64 a.x.im, .int .i64 a.x.den, .int .i64 a.y.re, .int .i64 a.y.im, .int .i64 a.y.den] 26)).alloc (.cells #[.int .i64 0, .int .i64 0, .int .i64 0, .int .i64 0, .int .i64 0, .int .i64 0] 26)).alloc (.cells #[.bool false] 57)).drew.frozen? ⟨w.heap.size + 1 + 1, 0, none⟩ = false := by simp [go_sem]
  go_enter Try.func19, Try.ntmps19
  go_wp2
  go_region_held3 (fun w' => w'.cell? ⟨w.heap.size, 0, none⟩ = some (.int .i64 a.x.re) ∧ w'.cell? ⟨w.heap.size, 1, none⟩ = some (.int .i64 a.x.im) ∧ w'.cell? ⟨w.heap.size, 2, none⟩ = some (.int .i64 a.x.den) ∧ w'.cell? ⟨w.heap.size, 3, none⟩ = some (.int .i64 a.y.re) ∧ w'.cell? ⟨w.heap.size, 4, none⟩ = some (.int .i64 a.y.im) ∧ w'.cell? ⟨w.heap.size, 5, none⟩ = some (.int .i64 a.y.den))
    (first | go_keep | (simp [*]; done))
    (first
      | (go_at_call 32; (with_reducible refine (smirror_any _ _ _ _ (by first | omega | (simp <;> omega)) hsc hsf).mono ?_); rintro e w3 ho; obtain ⟨rfl, hs⟩ := ho.fn; have HR := Lib.hid (HR.out.sm hs (by first | omega | (simp <;> omega)) (by omega)); have HB := Lib.hid (show Below w.heap.size w _ from hs.own HB.out (by omega)); have hc0 := hs.atc (w.heap.size) (by first | omega | (simp <;> omega)) (by omega); have hcr := hs.atc (w.heap.size + 1) (by first | omega | (simp <;> omega)) (by omega); have hfr := hs.atf (w.heap.size + 1) (by first | omega | (simp <;> omega)) (by omega); have hz : w.heap.size + 1 + 1 + 1 ≤ _ := Nat.le_trans (by first | omega | (simp <;> omega)) hs.size; have hsc := hs.cell; have hsf := hs.free; clear ho hs)
      | (go_at_call 35; (with_reducible refine (gotJones_no (w.heap.size + 1 + 1) ⟨(fMirror a.x).1, (fMirror a.y).1⟩ _ (by omega) (hsc.trans (congrArg (fun x => some (Value.bool x)) HE.out))).mono ?_); rintro e w4 ⟨rfl, hb⟩; have HR := Lib.hid (HR.out.below hb (by omega)); have HB := Lib.hid (show Below w.heap.size w w4 from HB.out.trans (hb.mono HB.out.size)); have hc0 := fun o => hb.cell (p := ⟨w.heap.size, o, none⟩) (by show w.heap.size < _; omega); have hcr := fun o => hb.cell (p := ⟨w.heap.size + 1, o, none⟩) (by show w.heap.size + 1 < _; omega); have hfr := fun o => hb.frozen (p := ⟨w.heap.size + 1, o, none⟩) (by show w.heap.size + 1 < _; omega); clear hb))
  go_wp2
  refine bodyPost_ret (v := .tuple #[.agg #[.int .i64 0, .int .i64 0, .int .i64 0, .int .i64 0, .int .i64 0, .int .i64 0], .bool false]) ?_ rfl ?_
  · exact Eq.trans (results_cell_mid2 rfl _ _ (w.heap.size + 1) [.int .i64 0, .int .i64 0, .int .i64 0, .int .i64 0, .int .i64 0, .int .i64 0] _ (by rfl) (World.rangeAt_setCells_same w4 (w.heap.size + 1) 0 [.int .i64 0, .int .i64 0, .int .i64 0, .int .i64 0, .int .i64 0, .int .i64 0] HR.out.there) Try.underlying26 rfl (by kernel_rfl)) rfl
  · exact J2Out.no (gt_no HG.out) (setCells_below (w.heap.size + 1) [.int .i64 0, .int .i64 0, .int .i64 0, .int .i64 0, .int .i64 0, .int .i64 0] 0 HB.out (by omega))
set_option maxRecDepth 100000 in
set_option maxHeartbeats 8000000 in
theorem ijmir_yes (a : J2) (hg : (jMirI a).2 = true) (w : World) :
    Calls Try.prog 19 #[.agg #[.int .i64 a.x.re, .int .i64 a.x.im, .int .i64 a.x.den, .int .i64 a.y.re, .int .i64 a.y.im, .int .i64 a.y.den]] w (J2Out (jMirI a) w) := by
  have HE := Lib.hid ((ends (gt_end _ _ _).1).2 hg)
  have HV := Lib.hid ((gt_end _ _ _).2 hg)
  have HG := Lib.hid hg; clear hg
  have HB : Hid (Below w.heap.size w (((w.alloc (.cells #[.int .i64 a.x.re, .int .i64 a.x.im, .int .i64 a.x.den, .int .i64 a.y.re, .int .i64 a.y.im, .int .i64 a.y.den] 26)).alloc (.cells #[.int .i64 0, .int .i64 0, .int .i64 0, .int .i64 0, .int .i64 0, .int .i64 0] 26)).alloc (.cells #[.bool false] 57)).drew) := by
    show Below _ _ _
    (repeat' first | exact Below.refl _ _ | apply bl_alloc | apply bl_drewN | apply bl_drew | refine bl_trans ?_ (by assumption) | refine bl_set ?_ (by first | omega | (simp <;> omega)) _)
  have HR : Hid (Room (((w.alloc (.cells #[.int .i64 a.x.re, .int .i64 a.x.im, .int .i64 a.x.den, .int .i64 a.y.re, .int .i64 a.y.im, .int .i64 a.y.den] 26)).alloc (.cells #[.int .i64 0, .int .i64 0, .int .i64 0, .int .i64 0, .int .i64 0, .int .i64 0] 26)).alloc (.cells #[.bool false] 57)).drew (w.heap.size + 1) 2) := by
    show Room _ _ _
    exact (Room.new' (by simp) rfl).alloc (by simp) _
  have hsc : (((w.alloc (.cells #[.int .i64 a.x.re, .int .i64 a.x.im, .int .i64 a.x.den, .int .i64 a.y.re, .int .i64 a.y.im, .int .i64 a.y.den] 26)).alloc (.cells #[.int .i64 0, .int .i64 0, .int .i64 0, .int .i64 0, .int .i64 0, .int .i64 0] 26)).alloc (.cells #[.bool false] 57)).drew.cell? ⟨w.heap.size + 1 + 1, 0, none⟩ = some (.bool false) := by simp [go_sem]
  have hsf : (((w.alloc (.cells #[.int .i64 a.x.re, .int .i64 a.x.im, .int .i64 a.x.den, .int .i64 a.y.re, .int .i64 a.y.im, .int .i64 a.y.den] 26)).alloc (.cells #[.int .i64 0, .int .i64 0, .int .i64 0, .int .i64 0, .int .i64 0, .int .i64 0] 26)).alloc (.cells #[.bool false] 57)).drew.frozen? ⟨w.heap.size + 1 + 1, 0, none⟩ = false := by simp [go_sem]
  go_enter Try.func19, Try.ntmps19
  go_wp2
  go_region_held3 (fun w' => w'.cell? ⟨w.heap.size, 0, none⟩ = some (.int .i64 a.x.re) ∧ w'.cell? ⟨w.heap.size, 1, none⟩ = some (.int .i64 a.x.im) ∧ w'.cell? ⟨w.heap.size, 2, none⟩ = some (.int .i64 a.x.den) ∧ w'.cell? ⟨w.heap.size, 3, none⟩ = some (.int .i64 a.y.re) ∧ w'.cell? ⟨w.heap.size, 4, none⟩ = some (.int .i64 a.y.im) ∧ w'.cell? ⟨w.heap.size, 5, none⟩ = some (.int .i64 a.y.den))
    (first | go_keep | (simp [*]; done))
    (first
      | (go_at_call 32; (with_reducible refine (smirror_any _ _ _ _ (by first | omega | (simp <;> omega)) hsc hsf).mono ?_); rintro e w3 ho; obtain ⟨rfl, hs⟩ := ho.fn; have HR := Lib.hid (HR.out.sm hs (by first | omega | (simp <;> omega)) (by omega)); have HB := Lib.hid (show Below w.heap.size w _ from hs.own HB.out (by omega)); have hc0 := hs.atc (w.heap.size) (by first | omega | (simp <;> omega)) (by omega); have hcr := hs.atc (w.heap.size + 1) (by first | omega | (simp <;> omega)) (by omega); have hfr := hs.atf (w.heap.size + 1) (by first | omega | (simp <;> omega)) (by omega); have hz : w.heap.size + 1 + 1 + 1 ≤ _ := Nat.le_trans (by first | omega | (simp <;> omega)) hs.size; have hsc := hs.cell; have hsf := hs.free; clear ho hs)
      | (go_at_call 35; (with_reducible refine (gotJones_yes (w.heap.size + 1 + 1) ⟨(fMirror a.x).1, (fMirror a.y).1⟩ _ (by omega) (hsc.trans (congrArg (fun x => some (Value.bool x)) HE.out))).mono ?_); rintro e w4 ⟨rfl, hb⟩; have HR := Lib.hid (HR.out.below hb (by omega)); have HB := Lib.hid (show Below w.heap.size w w4 from HB.out.trans (hb.mono HB.out.size)); have hc0 := fun o => hb.cell (p := ⟨w.heap.size, o, none⟩) (by show w.heap.size < _; omega); have hcr := fun o => hb.cell (p := ⟨w.heap.size + 1, o, none⟩) (by show w.heap.size + 1 < _; omega); have hfr := fun o => hb.frozen (p := ⟨w.heap.size + 1, o, none⟩) (by show w.heap.size + 1 < _; omega); clear hb))
  go_wp2
  refine bodyPost_ret (v := .tuple #[.agg #[.int .i64 ((fMirror a.x).1).re, .int .i64 ((fMirror a.x).1).im, .int .i64 ((fMirror a.x).1).den, .int .i64 ((fMirror a.y).1).re, .int .i64 ((fMirror a.y).1).im, .int .i64 ((fMirror a.y).1).den], .bool true]) ?_ rfl ?_
  · exact Eq.trans (results_cell_mid2 rfl _ _ (w.heap.size + 1) [.int .i64 ((fMirror a.x).1).re, .int .i64 ((fMirror a.x).1).im, .int .i64 ((fMirror a.x).1).den, .int .i64 ((fMirror a.y).1).re, .int .i64 ((fMirror a.y).1).im, .int .i64 ((fMirror a.y).1).den] _ (by rfl) (World.rangeAt_setCells_same w4 (w.heap.size + 1) 0 [.int .i64 ((fMirror a.x).1).re, .int .i64 ((fMirror a.x).1).im, .int .i64 ((fMirror a.x).1).den, .int .i64 ((fMirror a.y).1).re, .int .i64 ((fMirror a.y).1).im, .int .i64 ((fMirror a.y).1).den] HR.out.there) Try.underlying26 rfl (by kernel_rfl)) rfl
  · exact J2Out.yes (f := ⟨(fMirror a.x).1, (fMirror a.y).1⟩) HG.out HV.out (setCells_below (w.heap.size + 1) [.int .i64 ((fMirror a.x).1).re, .int .i64 ((fMirror a.x).1).im, .int .i64 ((fMirror a.x).1).den, .int .i64 ((fMirror a.y).1).re, .int .i64 ((fMirror a.y).1).im, .int .i64 ((fMirror a.y).1).den] 0 HB.out (by omega))
theorem ijmir_any (a : J2) (w : World) : Calls Try.prog 19 #[.agg #[.int .i64 a.x.re, .int .i64 a.x.im, .int .i64 a.x.den, .int .i64 a.y.re, .int .i64 a.y.im, .int .i64 a.y.den]] w (J2Out (jMirI a) w) := by
  cases h : (jMirI a).2
  · exact ijmir_no a h w
  · exact ijmir_yes a h w
theorem ijmir (a : J2) (w : World) : Calls Try.prog 19 #[.agg #[.int .i64 a.x.re, .int .i64 a.x.im, .int .i64 a.x.den, .int .i64 a.y.re, .int .i64 a.y.im, .int .i64 a.y.den]] w (J2Out (jMir a) w) := jMirI_eq a ▸ ijmir_any a w
end Go.Proofs.Ytamdjgehmmogjaa
namespace Go.Proofs.Ytamdjgehmmogjaa
open Go.RowKit Pol
def cX (a : Fr) : Fr := ⟨-a.re, a.im, a.den⟩
def jCrV (a : J2) : J2 := ⟨cX a.y, fConj a.x⟩
def jCr (a : J2) : J2 × Bool := if jv a = true then (jCrV a, true) else (j2z, false)
theorem cX_vld (a : Fr) : vld (cX a) = vld a := vld_back a
theorem jCr_v {a : J2} (h : jv a = true) : jv (jCrV a) = true := by
  obtain ⟨h1, h2⟩ := jv_iff.1 h
  exact jv_iff.2 ⟨(cX_vld _).trans h2, (conj_vld _).trans h1⟩
set_option maxRecDepth 100000 in
set_option maxHeartbeats 8000000 in
theorem icross_any (a : J2) (w : World) :
    Calls Try.prog 8 #[.agg #[.int .i64 a.x.re, .int .i64 a.x.im, .int .i64 a.x.den, .int .i64 a.y.re, .int .i64 a.y.im, .int .i64 a.y.den]] w (J2Out (jCr a) w) := by
  cases hv : jv a
  · skip
    have HG : Hid (jCr a = (j2z, false)) := by show _ = _; unfold jCr; rw [hv]; rfl
    have HB : Hid (Below w.heap.size w w) := Below.refl _ _
    go_enter Try.func8, Try.ntmps8
    go_wp2_with (first | ((with_reducible refine wpList_load_mid ?kl11 26 ?kl1x ?kl12 (w.heap.size) 0 ?kl13 [.int .i64 a.x.re, .int .i64 a.x.im, .int .i64 a.x.den, .int .i64 a.y.re, .int .i64 a.y.im, .int .i64 a.y.den] ?kl1d ?kl14 ?kl15 ?kl16 ?kl17 ?kl18); (case kl12 => rfl); (case kl11 => rfl); (case kl13 => rfl); (case kl14 => (exact (World.rangeAt_alloc (rangeAt_new _ _ _) _))); (case kl15 => exact Try.underlying26); (case kl16 => rfl); (case kl17 => kernel_rfl)))
    refine (ijv_any a _).mono ?_
    rintro e w1 ho
    rw [hv] at ho
    obtain ⟨rfl, hb⟩ : e = .returned (.bool false) ∧ Below _ _ _ := (id ho)
    clear ho
    have HB := Lib.hid (show Below w.heap.size w w1 from HB.out.trans ((show Below _ _ _ from (((Below.refl _ _).alloc (by first | omega | (simp; done) | (simp <;> omega)) _).alloc (by first | omega | (simp; done) | (simp <;> omega)) _)).trans (hb.mono (by first | omega | (simp <;> omega)))))
    have Ha : Hid (w1.rangeAt (w.heap.size) 0 [.int .i64 a.x.re, .int .i64 a.x.im, .int .i64 a.x.den, .int .i64 a.y.re, .int .i64 a.y.im, .int .i64 a.y.den]) := rangeAt_below (World.rangeAt_alloc (rangeAt_new _ _ _) _) hb (by first | omega | (simp; done) | (simp <;> omega))
    have HR := Lib.hid ((show Room _ (w.heap.size + 1) 2 from (Room.new' (by simp) rfl)).below hb (by first | omega | (simp <;> omega)))
    have hz1 := hb.size
    (try simp at hz1)
    clear hb
    have nA0 : w.heap.size < w1.heap.size := by omega
    have nB0 : ¬ w.heap.size = w1.heap.size := by omega
    have nC0 : ¬ w1.heap.size = w.heap.size := by omega
    have nA1 : w.heap.size + 1 < w1.heap.size := by omega
    have nB1 : ¬ w.heap.size + 1 = w1.heap.size := by omega
    have nC1 : ¬ w1.heap.size = w.heap.size + 1 := by omega
    have hth := (show Room w1 (w.heap.size + 1) 2 from HR.out).there
    go_wp2_with (first | ((with_reducible refine wpList_store_mid ?kl21 26 ?kl2x ?kl2y ?kl22 (w.heap.size + 1) 0 #[.int .i64 0, .int .i64 0, .int .i64 0, .int .i64 0, .int .i64 0, .int .i64 0] ?kl23 ?kl24 ?kl25 ?kl26 ?kl27 ?kl28); (case kl22 => rfl); (case kl21 => rfl); (case kl23 => rfl); (case kl24 => rfl); (case kl25 => exact hth); (case kl26 => kernel_rfl); (case kl27 => exact (by simp [Value.oneCell']))))
    refine bodyPost_ret (v := .tuple #[.agg #[.int .i64 0, .int .i64 0, .int .i64 0, .int .i64 0, .int .i64 0, .int .i64 0], .bool false]) ?_ rfl (J2Out.no HG.out ?_)
    · exact Eq.trans (results_cell_mid2 Try.results8 _ _ (w.heap.size + 1) [.int .i64 0, .int .i64 0, .int .i64 0, .int .i64 0, .int .i64 0, .int .i64 0] _ (by rfl) (World.rangeAt_setCells_same _ (w.heap.size + 1) 0 [.int .i64 0, .int .i64 0, .int .i64 0, .int .i64 0, .int .i64 0, .int .i64 0] hth) Try.underlying26 rfl (by kernel_rfl)) rfl
    · (repeat' first | (with_reducible exact HB.out) | with_reducible refine setCells_below _ _ _ ?_ (by first | omega | (simp <;> omega)) | with_reducible refine Below.setCell ?_ (by show _ ≤ _; first | omega | (simp <;> omega) | simp) _ | with_reducible refine Below.alloc ?_ (by first | omega | (simp <;> omega)) _ | with_reducible apply Below.drew | with_reducible refine below_drewN ?_ _)
  · skip
    have HG : Hid (jCr a = (jCrV a, true)) := by show _ = _; unfold jCr; rw [hv]; rfl
    obtain ⟨h1, h2⟩ := jv_iff.1 hv
    obtain ⟨⟨b1, b2⟩, ⟨b3, b4⟩, -, -⟩ := (vld_iff _).1 h1
    obtain ⟨⟨c1, c2⟩, ⟨c3, c4⟩, -, -⟩ := (vld_iff _).1 h2
    clear h1 h2
    have HB : Hid (Below w.heap.size w w) := Below.refl _ _
    go_enter Try.func8, Try.ntmps8
    go_wp2_with (first | ((with_reducible refine wpList_load_mid ?kl31 26 ?kl3x ?kl32 (w.heap.size) 0 ?kl33 [.int .i64 a.x.re, .int .i64 a.x.im, .int .i64 a.x.den, .int .i64 a.y.re, .int .i64 a.y.im, .int .i64 a.y.den] ?kl3d ?kl34 ?kl35 ?kl36 ?kl37 ?kl38); (case kl32 => rfl); (case kl31 => rfl); (case kl33 => rfl); (case kl34 => (exact (World.rangeAt_alloc (rangeAt_new _ _ _) _))); (case kl35 => exact Try.underlying26); (case kl36 => rfl); (case kl37 => kernel_rfl)))
    refine (ijv_any a _).mono ?_
    rintro e w1 ho
    rw [hv] at ho
    obtain ⟨rfl, hb⟩ : e = .returned (.bool true) ∧ Below _ _ _ := (id ho)
    clear ho
    have HB := Lib.hid (show Below w.heap.size w w1 from HB.out.trans ((show Below _ _ _ from (((Below.refl _ _).alloc (by first | omega | (simp; done) | (simp <;> omega)) _).alloc (by first | omega | (simp; done) | (simp <;> omega)) _)).trans (hb.mono (by first | omega | (simp <;> omega)))))
    have Ha : Hid (w1.rangeAt (w.heap.size) 0 [.int .i64 a.x.re, .int .i64 a.x.im, .int .i64 a.x.den, .int .i64 a.y.re, .int .i64 a.y.im, .int .i64 a.y.den]) := rangeAt_below (World.rangeAt_alloc (rangeAt_new _ _ _) _) hb (by first | omega | (simp; done) | (simp <;> omega))
    have HR := Lib.hid ((show Room _ (w.heap.size + 1) 2 from (Room.new' (by simp) rfl)).below hb (by first | omega | (simp <;> omega)))
    have hz1 := hb.size
    (try simp at hz1)
    clear hb
    have nA0 : w.heap.size < w1.heap.size := by omega
    have nB0 : ¬ w.heap.size = w1.heap.size := by omega
    have nC0 : ¬ w1.heap.size = w.heap.size := by omega
    have nA1 : w.heap.size + 1 < w1.heap.size := by omega
    have nB1 : ¬ w.heap.size + 1 = w1.heap.size := by omega
    have nC1 : ¬ w1.heap.size = w.heap.size + 1 := by omega
    have za_0 : w1.cell? ⟨w.heap.size, 0, none⟩ = some (.int .i64 a.x.re) := by have := Ha.out 0 _ rfl; rwa [Nat.zero_add] at this
    have za_1 : w1.cell? ⟨w.heap.size, 1, none⟩ = some (.int .i64 a.x.im) := by have := Ha.out 1 _ rfl; rwa [Nat.zero_add] at this
    have za_2 : w1.cell? ⟨w.heap.size, 2, none⟩ = some (.int .i64 a.x.den) := by have := Ha.out 2 _ rfl; rwa [Nat.zero_add] at this
    have za_3 : w1.cell? ⟨w.heap.size, 3, none⟩ = some (.int .i64 a.y.re) := by have := Ha.out 3 _ rfl; rwa [Nat.zero_add] at this
    have za_4 : w1.cell? ⟨w.heap.size, 4, none⟩ = some (.int .i64 a.y.im) := by have := Ha.out 4 _ rfl; rwa [Nat.zero_add] at this
    have za_5 : w1.cell? ⟨w.heap.size, 5, none⟩ = some (.int .i64 a.y.den) := by have := Ha.out 5 _ rfl; rwa [Nat.zero_add] at this
    have hth := (show Room w1 (w.heap.size + 1) 2 from HR.out).there
    go_wp2_with (first | ((with_reducible refine wpList_store_mid ?kl41 26 ?kl4x ?kl4y ?kl42 (w.heap.size + 1) 0 #[.int .i64 (-a.y.re), .int .i64 a.y.im, .int .i64 a.y.den, .int .i64 a.x.re, .int .i64 (-a.x.im), .int .i64 a.x.den] ?kl43 ?kl44 ?kl45 ?kl46 ?kl47 ?kl48); (case kl42 => rfl); (case kl41 => rfl); (case kl43 => rfl); (case kl44 => rfl); (case kl45 => exact hth); (case kl46 => kernel_rfl); (case kl47 => exact (by simp [Value.oneCell']))))
    refine bodyPost_ret (v := .tuple #[.agg #[.int .i64 (-a.y.re), .int .i64 a.y.im, .int .i64 a.y.den, .int .i64 a.x.re, .int .i64 (-a.x.im), .int .i64 a.x.den], .bool true]) ?_ rfl (J2Out.yes (f := jCrV a) (by rw [HG.out]) (by rw [HG.out]) ?_)
    · exact Eq.trans (results_cell_mid2 Try.results8 _ _ (w.heap.size + 1) [.int .i64 (-a.y.re), .int .i64 a.y.im, .int .i64 a.y.den, .int .i64 a.x.re, .int .i64 (-a.x.im), .int .i64 a.x.den] _ (by rfl) (World.rangeAt_setCells_same _ (w.heap.size + 1) 0 [.int .i64 (-a.y.re), .int .i64 a.y.im, .int .i64 a.y.den, .int .i64 a.x.re, .int .i64 (-a.x.im), .int .i64 a.x.den] hth) Try.underlying26 rfl (by kernel_rfl)) rfl
    · (repeat' first | (with_reducible exact HB.out) | with_reducible refine setCells_below _ _ _ ?_ (by first | omega | (simp <;> omega)) | with_reducible refine Below.setCell ?_ (by show _ ≤ _; first | omega | (simp <;> omega) | simp) _ | with_reducible refine Below.alloc ?_ (by first | omega | (simp <;> omega)) _ | with_reducible apply Below.drew | with_reducible refine below_drewN ?_ _)
end Go.Proofs.Ytamdjgehmmogjaa
