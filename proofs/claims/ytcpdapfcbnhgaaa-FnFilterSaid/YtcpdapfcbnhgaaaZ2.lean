/- Contracts: filters. -/
import Derived.Test.YtcpdapfcbnhgaaaZ
namespace Go.Proofs.Ytcpdapfcbnhgaaa
open Go.RowKit Pol

def gFil (p q : Int) : M4 × Bool := if dirB p q = true then g4 (fTimes (dC p q) (dC p q)).1 (fTimes (dC p q) (dS p q)).1 (fTimes (dC p q) (dS p q)).1 (fTimes (dS p q) (dS p q)).1 ((fTimes (dC p q) (dC p q)).2 && (fTimes (dC p q) (dS p q)).2 && (fTimes (dS p q) (dS p q)).2) else (m4z, false)
def eFil (p q : Int) : Bool := ((((false || !true) || !(fTimes (dC p q) (dC p q)).2) || !(fTimes (dC p q) (dS p q)).2) || !(fTimes (dC p q) (dS p q)).2) || !(fTimes (dS p q) (dS p q)).2
theorem gFil_no1 {p q : Int} (h : dirB p q = false) : gFil p q = (m4z, false) := by unfold gFil; rw [if_neg (by rw [h]; simp)]
theorem gFil_g {p q : Int} (h : dirB p q = true) : gFil p q = g4 (fTimes (dC p q) (dC p q)).1 (fTimes (dC p q) (dS p q)).1 (fTimes (dC p q) (dS p q)).1 (fTimes (dS p q) (dS p q)).1 ((fTimes (dC p q) (dC p q)).2 && (fTimes (dC p q) (dS p q)).2 && (fTimes (dS p q) (dS p q)).2) := by unfold gFil; rw [if_pos h]
theorem gFil_no2 {p q : Int} (h : dirB p q = true) (he : eFil p q = true) : gFil p q = (m4z, false) := by
  rw [gFil_g h]; unfold g4; unfold eFil at he
  cases h1 : (fTimes (dC p q) (dC p q)).2 <;> cases h2 : (fTimes (dC p q) (dS p q)).2 <;> cases h3 : (fTimes (dS p q) (dS p q)).2 <;> simp_all
theorem gFil_yes {p q : Int} (h : dirB p q = true) (he : eFil p q = false) : gFil p q = (⟨(fTimes (dC p q) (dC p q)).1, (fTimes (dC p q) (dS p q)).1, (fTimes (dC p q) (dS p q)).1, (fTimes (dS p q) (dS p q)).1⟩, true) := by
  rw [gFil_g h]; unfold g4; unfold eFil at he
  cases h1 : (fTimes (dC p q) (dC p q)).2 <;> cases h2 : (fTimes (dC p q) (dS p q)).2 <;> cases h3 : (fTimes (dS p q) (dS p q)).2 <;> simp_all
set_option maxRecDepth 100000 in
set_option maxHeartbeats 4000000 in
theorem ifil_any (p q : Int) (w : World) :
    Calls Try.prog 8 #[.int .i64 p, .int .i64 q] w (M4Out (gFil p q) w) := by
  cases hd : dirB p q
  · have HD := Lib.hid hd
    have HG := Lib.hid (gFil_no1 hd); clear hd
    have HE : Hid ((((((false || !false) || !(fTimes ⟨0, 0, 0⟩ ⟨0, 0, 0⟩).2) || !(fTimes ⟨0, 0, 0⟩ ⟨0, 0, 0⟩).2) || !(fTimes ⟨0, 0, 0⟩ ⟨0, 0, 0⟩).2) || !(fTimes ⟨0, 0, 0⟩ ⟨0, 0, 0⟩).2) = true) := by show _ = _; simp
    go_enter Try.func8, Try.ntmps8
    go_wp2_with fail
    refine (idir_any p q _).mono ?_
    rintro e w1 ho
    obtain ⟨rfl, hb⟩ := ho.f HD.out
    have kc0 := fun o => hb.cell (p := ⟨w.heap.size, o, none⟩) (by show w.heap.size < _; first | omega | (simp <;> omega))
    have kf0 := fun o => hb.frozen (p := ⟨w.heap.size, o, none⟩) (by show w.heap.size < _; first | omega | (simp <;> omega))
    have hz := hb.size
    simp at hz
    have kl0 : w.heap.size < w1.heap.size := by omega
    have kn0 : ¬ w.heap.size = w1.heap.size := by omega
    have kn1 : ¬ w.heap.size = w1.heap.size + 1 := by omega
    have kn2 : ¬ w.heap.size = w1.heap.size + 1 + 1 := by omega
    have kn3 : ¬ w.heap.size = w1.heap.size + 2 := by omega
    have HR := Lib.hid (show Room w1 w.heap.size 4 from Room.below (Room.new' rfl rfl) hb (by simp))
    have HB := Lib.hid (show Below w.heap.size w w1 from by (repeat' first | exact Below.refl _ _ | apply bl_alloc | apply bl_drewN | apply bl_drew | refine bl_trans ?_ (by assumption) | refine bl_set ?_ (by first | omega | (simp <;> omega)) _))
    clear ho hb
    go_wp2_with fail
    refine (need_any (w1.heap.size + 1 + 1) false false _ (by simp) (by simp [go_sem]) (by simp [go_sem])).mono ?_
    rintro e w2 ho
    obtain ⟨rfl, hs⟩ := ho.fn
    have HB : Hid (Below w.heap.size w w2.drew) := (hs.own (show Below w.heap.size w _ from HB.out.trans (show Below _ _ _ from (((Below.refl _ _).alloc (by omega) _).alloc (by simp; omega) _).alloc (by simp; omega) _)) (by omega)).drew
    have HR : Hid (Room w2.drew w.heap.size 4) := Room.drew (Room.sm (b := w1.heap.size + 1 + 1) (show Room _ w.heap.size 4 from ((HR.out.alloc (by omega) _).alloc (by simp; omega) _).alloc (by simp; omega) _) hs (by simp; omega) (by omega))
    have hb3 := fun a b c => (show Below w1.heap.size w1 (((w1.alloc a).alloc b).alloc c) from (((Below.refl _ _).alloc (by omega) _).alloc (by simp) _).alloc (by simp <;> omega) _)
    have ha0 := hs.atc (w1.heap.size) (by first | omega | (simp <;> omega)) (by omega)
    have ha1 := hs.atc (w1.heap.size + 1) (by first | omega | (simp <;> omega)) (by omega)
    have hcr := fun o => (hs.atc w.heap.size (by first | omega | (simp <;> omega)) (by omega) o).trans ((hb3 _ _ _).cell (p := ⟨w.heap.size, o, none⟩) kl0)
    have hfr := fun o => (hs.atf w.heap.size (by first | omega | (simp <;> omega)) (by omega) o).trans ((hb3 _ _ _).frozen (p := ⟨w.heap.size, o, none⟩) kl0)
    have hz : w1.heap.size + 1 + 1 + 1 ≤ _ := Nat.le_trans (by first | omega | (simp <;> omega)) hs.size
    have hsc := hs.cell
    have hsf := hs.free
    clear hb3
    have hsc : w2.drew.cell? ⟨w1.heap.size + 1 + 1, 0, none⟩ = _ := hsc
    have hsf : w2.drew.frozen? ⟨w1.heap.size + 1 + 1, 0, none⟩ = _ := hsf
    clear ho hs
    go_wp2
    go_region_held3 (fun w' => w'.cell? ⟨w1.heap.size, 0, none⟩ = some (.int .i64 0) ∧ w'.cell? ⟨w1.heap.size, 1, none⟩ = some (.int .i64 0) ∧ w'.cell? ⟨w1.heap.size, 2, none⟩ = some (.int .i64 0) ∧ w'.cell? ⟨w1.heap.size + 1, 0, none⟩ = some (.int .i64 0) ∧ w'.cell? ⟨w1.heap.size + 1, 1, none⟩ = some (.int .i64 0) ∧ w'.cell? ⟨w1.heap.size + 1, 2, none⟩ = some (.int .i64 0))
      (((try dsimp only); (refine ⟨?_, ?_, ?_, ?_, ?_, ?_⟩ <;> first | (simp [*, cell_new_at]; done) | (go_keep; done) | (rw [World.cell?_setCells_out _ _ _ _ _ (by first | exact (fun h _ => absurd (Eq.symm h) kn0) | exact (fun h _ => absurd (Eq.symm h) kn1))]; simp [*]; done) | ((repeat (rw [World.cell?_setCell_far _ _ _ _ (by first | exact kn0 | exact kn1)])); simp [*]; done))))
      (first
        | (go_at_call 29; (with_reducible refine (stimes_any _ _ ⟨0, 0, 0⟩ ⟨0, 0, 0⟩ _ (by first | omega | (simp <;> omega)) hsc hsf).mono ?_); rintro e w3 ho; obtain ⟨rfl, hs⟩ := ho.fn; have HR := Lib.hid (HR.out.sm hs (by first | omega | (simp <;> omega)) (by omega)); have HB := Lib.hid (show Below w.heap.size w _ from hs.own HB.out (by omega)); have ha0 := hs.atc (w1.heap.size) (by first | omega | (simp <;> omega)) (by omega); have ha1 := hs.atc (w1.heap.size + 1) (by first | omega | (simp <;> omega)) (by omega); have hcr := hs.atc w.heap.size (by first | omega | (simp <;> omega)) (by omega); have hfr := hs.atf w.heap.size (by first | omega | (simp <;> omega)) (by omega); have hz : w1.heap.size + 1 + 1 + 1 ≤ _ := Nat.le_trans (by first | omega | (simp <;> omega)) hs.size; have hsc := hs.cell; have hsf := hs.free; clear ho hs)
        | (go_at_call 28; (with_reducible refine (gotMat_no (w1.heap.size + 1 + 1) ⟨(fTimes ⟨0, 0, 0⟩ ⟨0, 0, 0⟩).1, (fTimes ⟨0, 0, 0⟩ ⟨0, 0, 0⟩).1, (fTimes ⟨0, 0, 0⟩ ⟨0, 0, 0⟩).1, (fTimes ⟨0, 0, 0⟩ ⟨0, 0, 0⟩).1⟩ _ (by omega) (hsc.trans (congrArg (fun x => some (Value.bool x)) HE.out))).mono ?_); rintro e w4 ⟨rfl, hb⟩; have HR := Lib.hid (HR.out.below hb (by omega)); have HB := Lib.hid (show Below w.heap.size w w4 from HB.out.trans (hb.mono HB.out.size)); have ha0 := fun o => hb.cell (p := ⟨w1.heap.size, o, none⟩) (by show w1.heap.size < _; omega); have ha1 := fun o => hb.cell (p := ⟨w1.heap.size + 1, o, none⟩) (by show w1.heap.size + 1 < _; omega); have hcr := fun o => hb.cell (p := ⟨w.heap.size, o, none⟩) (by show w.heap.size < _; omega); have hfr := fun o => hb.frozen (p := ⟨w.heap.size, o, none⟩) (by show w.heap.size < _; omega); clear hb))
    go_wp2
    refine bodyPost_ret (v := .tuple #[.agg #[.int .i64 0, .int .i64 0, .int .i64 0, .int .i64 0, .int .i64 0, .int .i64 0, .int .i64 0, .int .i64 0, .int .i64 0, .int .i64 0, .int .i64 0, .int .i64 0], .bool false]) ?_ rfl (M4Out.no HG.out ?_)
    · exact Eq.trans (results_cell_mid2 Try.results8 _ _ w.heap.size [.int .i64 0, .int .i64 0, .int .i64 0, .int .i64 0, .int .i64 0, .int .i64 0, .int .i64 0, .int .i64 0, .int .i64 0, .int .i64 0, .int .i64 0, .int .i64 0] _ (by rfl) (by ((repeat' first | (with_reducible refine World.rangeAt_setCells_same _ (w.heap.size) 0 [.int .i64 0, .int .i64 0, .int .i64 0, .int .i64 0, .int .i64 0, .int .i64 0, .int .i64 0, .int .i64 0, .int .i64 0, .int .i64 0, .int .i64 0, .int .i64 0] ?_) | (with_reducible refine World.rangeAt_alloc ?_ _) | (with_reducible refine (World.rangeAt_drew _ _ _ _).2 ?_)); first | exact HR.out.there | (have hh := fun W h => World.rangeAt_setCells_same W (w.heap.size) 0 [.int .i64 0, .int .i64 0, .int .i64 0, .int .i64 0, .int .i64 0, .int .i64 0, .int .i64 0, .int .i64 0, .int .i64 0, .int .i64 0, .int .i64 0, .int .i64 0] h; simp only [World.setCells, Nat.zero_add, Nat.reduceAdd] at hh; exact hh _ HR.out.there))) Try.underlying29 rfl (by kernel_rfl)) rfl
    · (repeat' first | (with_reducible exact HB.out) | with_reducible refine setCells_below _ _ _ ?_ (by first | omega | (simp <;> omega)) | with_reducible refine Below.setCell ?_ (by show _ ≤ _; first | omega | (simp <;> omega) | simp) _ | with_reducible refine Below.alloc ?_ (by first | omega | (simp <;> omega)) _ | with_reducible apply Below.drew)
  cases he : eFil p q
  · have HD := Lib.hid hd
    have HG := Lib.hid (gFil_yes hd he)
    have HE : Hid (eFil p q = false) := he
    unfold eFil at HE; clear hd he
    go_enter Try.func8, Try.ntmps8
    go_wp2_with fail
    refine (idir_any p q _).mono ?_
    rintro e w1 ho
    obtain ⟨rfl, hb⟩ := ho.t HD.out
    have kc0 := fun o => hb.cell (p := ⟨w.heap.size, o, none⟩) (by show w.heap.size < _; first | omega | (simp <;> omega))
    have kf0 := fun o => hb.frozen (p := ⟨w.heap.size, o, none⟩) (by show w.heap.size < _; first | omega | (simp <;> omega))
    have hz := hb.size
    simp at hz
    have kl0 : w.heap.size < w1.heap.size := by omega
    have kn0 : ¬ w.heap.size = w1.heap.size := by omega
    have kn1 : ¬ w.heap.size = w1.heap.size + 1 := by omega
    have kn2 : ¬ w.heap.size = w1.heap.size + 1 + 1 := by omega
    have kn3 : ¬ w.heap.size = w1.heap.size + 2 := by omega
    have HR := Lib.hid (show Room w1 w.heap.size 4 from Room.below (Room.new' rfl rfl) hb (by simp))
    have HB := Lib.hid (show Below w.heap.size w w1 from by (repeat' first | exact Below.refl _ _ | apply bl_alloc | apply bl_drewN | apply bl_drew | refine bl_trans ?_ (by assumption) | refine bl_set ?_ (by first | omega | (simp <;> omega)) _))
    clear ho hb
    go_wp2_with fail
    refine (need_any (w1.heap.size + 1 + 1) false true _ (by simp) (by simp [go_sem]) (by simp [go_sem])).mono ?_
    rintro e w2 ho
    obtain ⟨rfl, hs⟩ := ho.fn
    have HB : Hid (Below w.heap.size w w2.drew) := (hs.own (show Below w.heap.size w _ from HB.out.trans (show Below _ _ _ from (((Below.refl _ _).alloc (by omega) _).alloc (by simp; omega) _).alloc (by simp; omega) _)) (by omega)).drew
    have HR : Hid (Room w2.drew w.heap.size 4) := Room.drew (Room.sm (b := w1.heap.size + 1 + 1) (show Room _ w.heap.size 4 from ((HR.out.alloc (by omega) _).alloc (by simp; omega) _).alloc (by simp; omega) _) hs (by simp; omega) (by omega))
    have hb3 := fun a b c => (show Below w1.heap.size w1 (((w1.alloc a).alloc b).alloc c) from (((Below.refl _ _).alloc (by omega) _).alloc (by simp) _).alloc (by simp <;> omega) _)
    have ha0 := hs.atc (w1.heap.size) (by first | omega | (simp <;> omega)) (by omega)
    have ha1 := hs.atc (w1.heap.size + 1) (by first | omega | (simp <;> omega)) (by omega)
    have hcr := fun o => (hs.atc w.heap.size (by first | omega | (simp <;> omega)) (by omega) o).trans ((hb3 _ _ _).cell (p := ⟨w.heap.size, o, none⟩) kl0)
    have hfr := fun o => (hs.atf w.heap.size (by first | omega | (simp <;> omega)) (by omega) o).trans ((hb3 _ _ _).frozen (p := ⟨w.heap.size, o, none⟩) kl0)
    have hz : w1.heap.size + 1 + 1 + 1 ≤ _ := Nat.le_trans (by first | omega | (simp <;> omega)) hs.size
    have hsc := hs.cell
    have hsf := hs.free
    clear hb3
    have hsc : w2.drew.cell? ⟨w1.heap.size + 1 + 1, 0, none⟩ = _ := hsc
    have hsf : w2.drew.frozen? ⟨w1.heap.size + 1 + 1, 0, none⟩ = _ := hsf
    clear ho hs
    go_wp2
    go_region_held3 (fun w' => w'.cell? ⟨w1.heap.size, 0, none⟩ = some (.int .i64 (dC p q).re) ∧ w'.cell? ⟨w1.heap.size, 1, none⟩ = some (.int .i64 (dC p q).im) ∧ w'.cell? ⟨w1.heap.size, 2, none⟩ = some (.int .i64 (dC p q).den) ∧ w'.cell? ⟨w1.heap.size + 1, 0, none⟩ = some (.int .i64 (dS p q).re) ∧ w'.cell? ⟨w1.heap.size + 1, 1, none⟩ = some (.int .i64 (dS p q).im) ∧ w'.cell? ⟨w1.heap.size + 1, 2, none⟩ = some (.int .i64 (dS p q).den))
      (((try dsimp only); (refine ⟨?_, ?_, ?_, ?_, ?_, ?_⟩ <;> first | (simp [*, cell_new_at]; done) | (go_keep; done) | (rw [World.cell?_setCells_out _ _ _ _ _ (by first | exact (fun h _ => absurd (Eq.symm h) kn0) | exact (fun h _ => absurd (Eq.symm h) kn1))]; simp [*]; done) | ((repeat (rw [World.cell?_setCell_far _ _ _ _ (by first | exact kn0 | exact kn1)])); simp [*]; done))))
      (first
        | (go_at_call 29; (with_reducible refine (stimes_any _ _ _ _ _ (by first | omega | (simp <;> omega)) hsc hsf).mono ?_); rintro e w3 ho; obtain ⟨rfl, hs⟩ := ho.fn; have HR := Lib.hid (HR.out.sm hs (by first | omega | (simp <;> omega)) (by omega)); have HB := Lib.hid (show Below w.heap.size w _ from hs.own HB.out (by omega)); have ha0 := hs.atc (w1.heap.size) (by first | omega | (simp <;> omega)) (by omega); have ha1 := hs.atc (w1.heap.size + 1) (by first | omega | (simp <;> omega)) (by omega); have hcr := hs.atc w.heap.size (by first | omega | (simp <;> omega)) (by omega); have hfr := hs.atf w.heap.size (by first | omega | (simp <;> omega)) (by omega); have hz : w1.heap.size + 1 + 1 + 1 ≤ _ := Nat.le_trans (by first | omega | (simp <;> omega)) hs.size; have hsc := hs.cell; have hsf := hs.free; clear ho hs)
        | (go_at_call 28; (with_reducible refine (gotMat_yes (w1.heap.size + 1 + 1) ⟨(fTimes (dC p q) (dC p q)).1, (fTimes (dC p q) (dS p q)).1, (fTimes (dC p q) (dS p q)).1, (fTimes (dS p q) (dS p q)).1⟩ _ (by omega) (hsc.trans (congrArg (fun x => some (Value.bool x)) HE.out))).mono ?_); rintro e w4 ⟨rfl, hb⟩; have HR := Lib.hid (HR.out.below hb (by omega)); have HB := Lib.hid (show Below w.heap.size w w4 from HB.out.trans (hb.mono HB.out.size)); have ha0 := fun o => hb.cell (p := ⟨w1.heap.size, o, none⟩) (by show w1.heap.size < _; omega); have ha1 := fun o => hb.cell (p := ⟨w1.heap.size + 1, o, none⟩) (by show w1.heap.size + 1 < _; omega); have hcr := fun o => hb.cell (p := ⟨w.heap.size, o, none⟩) (by show w.heap.size < _; omega); have hfr := fun o => hb.frozen (p := ⟨w.heap.size, o, none⟩) (by show w.heap.size < _; omega); clear hb))
    go_wp2
    refine bodyPost_ret (v := .tuple #[.agg #[.int .i64 ((fTimes (dC p q) (dC p q)).1).re, .int .i64 ((fTimes (dC p q) (dC p q)).1).im, .int .i64 ((fTimes (dC p q) (dC p q)).1).den, .int .i64 ((fTimes (dC p q) (dS p q)).1).re, .int .i64 ((fTimes (dC p q) (dS p q)).1).im, .int .i64 ((fTimes (dC p q) (dS p q)).1).den, .int .i64 ((fTimes (dC p q) (dS p q)).1).re, .int .i64 ((fTimes (dC p q) (dS p q)).1).im, .int .i64 ((fTimes (dC p q) (dS p q)).1).den, .int .i64 ((fTimes (dS p q) (dS p q)).1).re, .int .i64 ((fTimes (dS p q) (dS p q)).1).im, .int .i64 ((fTimes (dS p q) (dS p q)).1).den], .bool true]) ?_ rfl (M4Out.yes (f := ⟨(fTimes (dC p q) (dC p q)).1, (fTimes (dC p q) (dS p q)).1, (fTimes (dC p q) (dS p q)).1, (fTimes (dS p q) (dS p q)).1⟩) (by rw [HG.out]) (by rw [HG.out]) ?_)
    · exact Eq.trans (results_cell_mid2 Try.results8 _ _ w.heap.size [.int .i64 ((fTimes (dC p q) (dC p q)).1).re, .int .i64 ((fTimes (dC p q) (dC p q)).1).im, .int .i64 ((fTimes (dC p q) (dC p q)).1).den, .int .i64 ((fTimes (dC p q) (dS p q)).1).re, .int .i64 ((fTimes (dC p q) (dS p q)).1).im, .int .i64 ((fTimes (dC p q) (dS p q)).1).den, .int .i64 ((fTimes (dC p q) (dS p q)).1).re, .int .i64 ((fTimes (dC p q) (dS p q)).1).im, .int .i64 ((fTimes (dC p q) (dS p q)).1).den, .int .i64 ((fTimes (dS p q) (dS p q)).1).re, .int .i64 ((fTimes (dS p q) (dS p q)).1).im, .int .i64 ((fTimes (dS p q) (dS p q)).1).den] _ (by rfl) (by ((repeat' first | (with_reducible refine World.rangeAt_setCells_same _ (w.heap.size) 0 [.int .i64 ((fTimes (dC p q) (dC p q)).1).re, .int .i64 ((fTimes (dC p q) (dC p q)).1).im, .int .i64 ((fTimes (dC p q) (dC p q)).1).den, .int .i64 ((fTimes (dC p q) (dS p q)).1).re, .int .i64 ((fTimes (dC p q) (dS p q)).1).im, .int .i64 ((fTimes (dC p q) (dS p q)).1).den, .int .i64 ((fTimes (dC p q) (dS p q)).1).re, .int .i64 ((fTimes (dC p q) (dS p q)).1).im, .int .i64 ((fTimes (dC p q) (dS p q)).1).den, .int .i64 ((fTimes (dS p q) (dS p q)).1).re, .int .i64 ((fTimes (dS p q) (dS p q)).1).im, .int .i64 ((fTimes (dS p q) (dS p q)).1).den] ?_) | (with_reducible refine World.rangeAt_alloc ?_ _) | (with_reducible refine (World.rangeAt_drew _ _ _ _).2 ?_)); first | exact HR.out.there | (have hh := fun W h => World.rangeAt_setCells_same W (w.heap.size) 0 [.int .i64 ((fTimes (dC p q) (dC p q)).1).re, .int .i64 ((fTimes (dC p q) (dC p q)).1).im, .int .i64 ((fTimes (dC p q) (dC p q)).1).den, .int .i64 ((fTimes (dC p q) (dS p q)).1).re, .int .i64 ((fTimes (dC p q) (dS p q)).1).im, .int .i64 ((fTimes (dC p q) (dS p q)).1).den, .int .i64 ((fTimes (dC p q) (dS p q)).1).re, .int .i64 ((fTimes (dC p q) (dS p q)).1).im, .int .i64 ((fTimes (dC p q) (dS p q)).1).den, .int .i64 ((fTimes (dS p q) (dS p q)).1).re, .int .i64 ((fTimes (dS p q) (dS p q)).1).im, .int .i64 ((fTimes (dS p q) (dS p q)).1).den] h; simp only [World.setCells, Nat.zero_add, Nat.reduceAdd] at hh; exact hh _ HR.out.there))) Try.underlying29 rfl (by kernel_rfl)) rfl
    · (repeat' first | (with_reducible exact HB.out) | with_reducible refine setCells_below _ _ _ ?_ (by first | omega | (simp <;> omega)) | with_reducible refine Below.setCell ?_ (by show _ ≤ _; first | omega | (simp <;> omega) | simp) _ | with_reducible refine Below.alloc ?_ (by first | omega | (simp <;> omega)) _ | with_reducible apply Below.drew)
  · have HD := Lib.hid hd
    have HG := Lib.hid (gFil_no2 hd he)
    have HE : Hid (eFil p q = true) := he
    unfold eFil at HE; clear hd he
    go_enter Try.func8, Try.ntmps8
    go_wp2_with fail
    refine (idir_any p q _).mono ?_
    rintro e w1 ho
    obtain ⟨rfl, hb⟩ := ho.t HD.out
    have kc0 := fun o => hb.cell (p := ⟨w.heap.size, o, none⟩) (by show w.heap.size < _; first | omega | (simp <;> omega))
    have kf0 := fun o => hb.frozen (p := ⟨w.heap.size, o, none⟩) (by show w.heap.size < _; first | omega | (simp <;> omega))
    have hz := hb.size
    simp at hz
    have kl0 : w.heap.size < w1.heap.size := by omega
    have kn0 : ¬ w.heap.size = w1.heap.size := by omega
    have kn1 : ¬ w.heap.size = w1.heap.size + 1 := by omega
    have kn2 : ¬ w.heap.size = w1.heap.size + 1 + 1 := by omega
    have kn3 : ¬ w.heap.size = w1.heap.size + 2 := by omega
    have HR := Lib.hid (show Room w1 w.heap.size 4 from Room.below (Room.new' rfl rfl) hb (by simp))
    have HB := Lib.hid (show Below w.heap.size w w1 from by (repeat' first | exact Below.refl _ _ | apply bl_alloc | apply bl_drewN | apply bl_drew | refine bl_trans ?_ (by assumption) | refine bl_set ?_ (by first | omega | (simp <;> omega)) _))
    clear ho hb
    go_wp2_with fail
    refine (need_any (w1.heap.size + 1 + 1) false true _ (by simp) (by simp [go_sem]) (by simp [go_sem])).mono ?_
    rintro e w2 ho
    obtain ⟨rfl, hs⟩ := ho.fn
    have HB : Hid (Below w.heap.size w w2.drew) := (hs.own (show Below w.heap.size w _ from HB.out.trans (show Below _ _ _ from (((Below.refl _ _).alloc (by omega) _).alloc (by simp; omega) _).alloc (by simp; omega) _)) (by omega)).drew
    have HR : Hid (Room w2.drew w.heap.size 4) := Room.drew (Room.sm (b := w1.heap.size + 1 + 1) (show Room _ w.heap.size 4 from ((HR.out.alloc (by omega) _).alloc (by simp; omega) _).alloc (by simp; omega) _) hs (by simp; omega) (by omega))
    have hb3 := fun a b c => (show Below w1.heap.size w1 (((w1.alloc a).alloc b).alloc c) from (((Below.refl _ _).alloc (by omega) _).alloc (by simp) _).alloc (by simp <;> omega) _)
    have ha0 := hs.atc (w1.heap.size) (by first | omega | (simp <;> omega)) (by omega)
    have ha1 := hs.atc (w1.heap.size + 1) (by first | omega | (simp <;> omega)) (by omega)
    have hcr := fun o => (hs.atc w.heap.size (by first | omega | (simp <;> omega)) (by omega) o).trans ((hb3 _ _ _).cell (p := ⟨w.heap.size, o, none⟩) kl0)
    have hfr := fun o => (hs.atf w.heap.size (by first | omega | (simp <;> omega)) (by omega) o).trans ((hb3 _ _ _).frozen (p := ⟨w.heap.size, o, none⟩) kl0)
    have hz : w1.heap.size + 1 + 1 + 1 ≤ _ := Nat.le_trans (by first | omega | (simp <;> omega)) hs.size
    have hsc := hs.cell
    have hsf := hs.free
    clear hb3
    have hsc : w2.drew.cell? ⟨w1.heap.size + 1 + 1, 0, none⟩ = _ := hsc
    have hsf : w2.drew.frozen? ⟨w1.heap.size + 1 + 1, 0, none⟩ = _ := hsf
    clear ho hs
    go_wp2
    go_region_held3 (fun w' => w'.cell? ⟨w1.heap.size, 0, none⟩ = some (.int .i64 (dC p q).re) ∧ w'.cell? ⟨w1.heap.size, 1, none⟩ = some (.int .i64 (dC p q).im) ∧ w'.cell? ⟨w1.heap.size, 2, none⟩ = some (.int .i64 (dC p q).den) ∧ w'.cell? ⟨w1.heap.size + 1, 0, none⟩ = some (.int .i64 (dS p q).re) ∧ w'.cell? ⟨w1.heap.size + 1, 1, none⟩ = some (.int .i64 (dS p q).im) ∧ w'.cell? ⟨w1.heap.size + 1, 2, none⟩ = some (.int .i64 (dS p q).den))
      (((try dsimp only); (refine ⟨?_, ?_, ?_, ?_, ?_, ?_⟩ <;> first | (simp [*, cell_new_at]; done) | (go_keep; done) | (rw [World.cell?_setCells_out _ _ _ _ _ (by first | exact (fun h _ => absurd (Eq.symm h) kn0) | exact (fun h _ => absurd (Eq.symm h) kn1))]; simp [*]; done) | ((repeat (rw [World.cell?_setCell_far _ _ _ _ (by first | exact kn0 | exact kn1)])); simp [*]; done))))
      (first
        | (go_at_call 29; (with_reducible refine (stimes_any _ _ _ _ _ (by first | omega | (simp <;> omega)) hsc hsf).mono ?_); rintro e w3 ho; obtain ⟨rfl, hs⟩ := ho.fn; have HR := Lib.hid (HR.out.sm hs (by first | omega | (simp <;> omega)) (by omega)); have HB := Lib.hid (show Below w.heap.size w _ from hs.own HB.out (by omega)); have ha0 := hs.atc (w1.heap.size) (by first | omega | (simp <;> omega)) (by omega); have ha1 := hs.atc (w1.heap.size + 1) (by first | omega | (simp <;> omega)) (by omega); have hcr := hs.atc w.heap.size (by first | omega | (simp <;> omega)) (by omega); have hfr := hs.atf w.heap.size (by first | omega | (simp <;> omega)) (by omega); have hz : w1.heap.size + 1 + 1 + 1 ≤ _ := Nat.le_trans (by first | omega | (simp <;> omega)) hs.size; have hsc := hs.cell; have hsf := hs.free; clear ho hs)
        | (go_at_call 28; (with_reducible refine (gotMat_no (w1.heap.size + 1 + 1) ⟨(fTimes (dC p q) (dC p q)).1, (fTimes (dC p q) (dS p q)).1, (fTimes (dC p q) (dS p q)).1, (fTimes (dS p q) (dS p q)).1⟩ _ (by omega) (hsc.trans (congrArg (fun x => some (Value.bool x)) HE.out))).mono ?_); rintro e w4 ⟨rfl, hb⟩; have HR := Lib.hid (HR.out.below hb (by omega)); have HB := Lib.hid (show Below w.heap.size w w4 from HB.out.trans (hb.mono HB.out.size)); have ha0 := fun o => hb.cell (p := ⟨w1.heap.size, o, none⟩) (by show w1.heap.size < _; omega); have ha1 := fun o => hb.cell (p := ⟨w1.heap.size + 1, o, none⟩) (by show w1.heap.size + 1 < _; omega); have hcr := fun o => hb.cell (p := ⟨w.heap.size, o, none⟩) (by show w.heap.size < _; omega); have hfr := fun o => hb.frozen (p := ⟨w.heap.size, o, none⟩) (by show w.heap.size < _; omega); clear hb))
    go_wp2
    refine bodyPost_ret (v := .tuple #[.agg #[.int .i64 0, .int .i64 0, .int .i64 0, .int .i64 0, .int .i64 0, .int .i64 0, .int .i64 0, .int .i64 0, .int .i64 0, .int .i64 0, .int .i64 0, .int .i64 0], .bool false]) ?_ rfl (M4Out.no HG.out ?_)
    · exact Eq.trans (results_cell_mid2 Try.results8 _ _ w.heap.size [.int .i64 0, .int .i64 0, .int .i64 0, .int .i64 0, .int .i64 0, .int .i64 0, .int .i64 0, .int .i64 0, .int .i64 0, .int .i64 0, .int .i64 0, .int .i64 0] _ (by rfl) (by ((repeat' first | (with_reducible refine World.rangeAt_setCells_same _ (w.heap.size) 0 [.int .i64 0, .int .i64 0, .int .i64 0, .int .i64 0, .int .i64 0, .int .i64 0, .int .i64 0, .int .i64 0, .int .i64 0, .int .i64 0, .int .i64 0, .int .i64 0] ?_) | (with_reducible refine World.rangeAt_alloc ?_ _) | (with_reducible refine (World.rangeAt_drew _ _ _ _).2 ?_)); first | exact HR.out.there | (have hh := fun W h => World.rangeAt_setCells_same W (w.heap.size) 0 [.int .i64 0, .int .i64 0, .int .i64 0, .int .i64 0, .int .i64 0, .int .i64 0, .int .i64 0, .int .i64 0, .int .i64 0, .int .i64 0, .int .i64 0, .int .i64 0] h; simp only [World.setCells, Nat.zero_add, Nat.reduceAdd] at hh; exact hh _ HR.out.there))) Try.underlying29 rfl (by kernel_rfl)) rfl
    · (repeat' first | (with_reducible exact HB.out) | with_reducible refine setCells_below _ _ _ ?_ (by first | omega | (simp <;> omega)) | with_reducible refine Below.setCell ?_ (by show _ ≤ _; first | omega | (simp <;> omega) | simp) _ | with_reducible refine Below.alloc ?_ (by first | omega | (simp <;> omega)) _ | with_reducible apply Below.drew)
set_option maxRecDepth 100000 in
set_option maxHeartbeats 8000000 in
theorem sfil_any (p q : Int) (w : World) :
    Calls Try.prog 9 #[.int .i64 p, .int .i64 q] w (M4Out (gFil p q) w) := by
  cases hd : dirB p q
  · have HD := Lib.hid hd
    have HG := Lib.hid (gFil_no1 hd); clear hd
    go_enter Try.func9, Try.ntmps9
    go_wp2_with fail
    refine (sdir_any p q _).mono ?_
    rintro e w1 ho
    obtain ⟨rfl, hb⟩ := ho.f HD.out
    have kc0 := fun o => hb.cell (p := ⟨w.heap.size, o, none⟩) (by show w.heap.size < _; first | omega | (simp <;> omega))
    have kf0 := fun o => hb.frozen (p := ⟨w.heap.size, o, none⟩) (by show w.heap.size < _; first | omega | (simp <;> omega))
    have hz := hb.size
    simp at hz
    have kl0 : w.heap.size < w1.heap.size := by omega
    have kn0 : ¬ w.heap.size = w1.heap.size := by omega
    have kn1 : ¬ w.heap.size = w1.heap.size + 1 := by omega
    have kn2 : ¬ w.heap.size = w1.heap.size + 1 + 1 := by omega
    have kn3 : ¬ w.heap.size = w1.heap.size + 2 := by omega
    have HR := Lib.hid (show Room w1 w.heap.size 4 from Room.below (Room.new' rfl rfl) hb (by simp))
    have HB := Lib.hid (show Below w.heap.size w w1 from by (repeat' first | exact Below.refl _ _ | apply bl_alloc | apply bl_drewN | apply bl_drew | refine bl_trans ?_ (by assumption) | refine bl_set ?_ (by first | omega | (simp <;> omega)) _))
    clear ho hb
    go_wp2
    refine bodyPost_ret (v := .tuple #[.agg #[.int .i64 0, .int .i64 0, .int .i64 0, .int .i64 0, .int .i64 0, .int .i64 0, .int .i64 0, .int .i64 0, .int .i64 0, .int .i64 0, .int .i64 0, .int .i64 0], .bool false]) ?_ rfl (M4Out.no HG.out ?_)
    · exact Eq.trans (results_cell_mid2 Try.results9 _ _ w.heap.size [.int .i64 0, .int .i64 0, .int .i64 0, .int .i64 0, .int .i64 0, .int .i64 0, .int .i64 0, .int .i64 0, .int .i64 0, .int .i64 0, .int .i64 0, .int .i64 0] _ (by rfl) (by ((repeat' first | (with_reducible refine World.rangeAt_setCells_same _ (w.heap.size) 0 [.int .i64 0, .int .i64 0, .int .i64 0, .int .i64 0, .int .i64 0, .int .i64 0, .int .i64 0, .int .i64 0, .int .i64 0, .int .i64 0, .int .i64 0, .int .i64 0] ?_) | (with_reducible refine World.rangeAt_alloc ?_ _) | (with_reducible refine (World.rangeAt_drew _ _ _ _).2 ?_)); first | exact HR.out.there | (have hh := fun W h => World.rangeAt_setCells_same W (w.heap.size) 0 [.int .i64 0, .int .i64 0, .int .i64 0, .int .i64 0, .int .i64 0, .int .i64 0, .int .i64 0, .int .i64 0, .int .i64 0, .int .i64 0, .int .i64 0, .int .i64 0] h; simp only [World.setCells, Nat.zero_add, Nat.reduceAdd] at hh; exact hh _ HR.out.there))) Try.underlying29 rfl (by kernel_rfl)) rfl
    · (repeat' first | (with_reducible exact HB.out) | with_reducible refine setCells_below _ _ _ ?_ (by first | omega | (simp <;> omega)) | with_reducible refine Below.setCell ?_ (by show _ ≤ _; first | omega | (simp <;> omega) | simp) _ | with_reducible refine Below.alloc ?_ (by first | omega | (simp <;> omega)) _ | with_reducible apply Below.drew)
  have HD := Lib.hid hd
  cases h1 : (fTimes (dC p q) (dC p q)).2
  · have HG : Hid (gFil p q = g4 (fTimes (dC p q) (dC p q)).1 (fTimes (dC p q) (dS p q)).1 (fTimes (dC p q) (dS p q)).1 (fTimes (dS p q) (dS p q)).1 false) := by show _ = _; rw [gFil_g hd]; simp [h1]
    clear hd
    go_enter Try.func9, Try.ntmps9
    go_wp2_with fail
    refine (sdir_any p q _).mono ?_
    rintro e w1 ho
    obtain ⟨rfl, hb⟩ := ho.t HD.out
    have kc0 := fun o => hb.cell (p := ⟨w.heap.size, o, none⟩) (by show w.heap.size < _; first | omega | (simp <;> omega))
    have kf0 := fun o => hb.frozen (p := ⟨w.heap.size, o, none⟩) (by show w.heap.size < _; first | omega | (simp <;> omega))
    have hz := hb.size
    simp at hz
    have kl0 : w.heap.size < w1.heap.size := by omega
    have kn0 : ¬ w.heap.size = w1.heap.size := by omega
    have kn1 : ¬ w.heap.size = w1.heap.size + 1 := by omega
    have kn2 : ¬ w.heap.size = w1.heap.size + 1 + 1 := by omega
    have kn3 : ¬ w.heap.size = w1.heap.size + 2 := by omega
    have HR := Lib.hid (show Room w1 w.heap.size 4 from Room.below (Room.new' rfl rfl) hb (by simp))
    have HB := Lib.hid (show Below w.heap.size w w1 from by (repeat' first | exact Below.refl _ _ | apply bl_alloc | apply bl_drewN | apply bl_drew | refine bl_trans ?_ (by assumption) | refine bl_set ?_ (by first | omega | (simp <;> omega)) _))
    clear ho hb
    go_wp2_with fail
    refine (sptimes_fr (dC p q) (dC p q) _).mono ?_
    rintro e w2 ho
    obtain ⟨rfl, hb⟩ := ho.fn
    have kc0 := fun o => hb.cell (p := ⟨w.heap.size, o, none⟩) (by show w.heap.size < _; first | omega | (simp <;> omega))
    have kc1 := fun o => hb.cell (p := ⟨w1.heap.size, o, none⟩) (by show w1.heap.size < _; first | omega | (simp <;> omega))
    have kc2 := fun o => hb.cell (p := ⟨w1.heap.size + 1, o, none⟩) (by show w1.heap.size + 1 < _; first | omega | (simp <;> omega))
    have kf0 := fun o => hb.frozen (p := ⟨w.heap.size, o, none⟩) (by show w.heap.size < _; first | omega | (simp <;> omega))
    have hz := hb.size
    (try simp at hz)
    have kl0 : w.heap.size < w2.heap.size := by omega
    have kn0 : ¬ w.heap.size = w2.heap.size := by omega
    have km0 : ¬ w2.heap.size = w.heap.size := by omega
    have kl1 : w1.heap.size < w2.heap.size := by omega
    have kn1 : ¬ w1.heap.size = w2.heap.size := by omega
    have km1 : ¬ w2.heap.size = w1.heap.size := by omega
    have kl2 : w1.heap.size + 1 < w2.heap.size := by omega
    have kn2 : ¬ w1.heap.size + 1 = w2.heap.size := by omega
    have km2 : ¬ w2.heap.size = w1.heap.size + 1 := by omega
    have HB := Lib.hid (show Below w.heap.size w w2 from by exact HB.out.trans ((show Below _ _ _ from (((Below.refl _ _).alloc (by omega) _).alloc (by simp; omega) _)).trans (hb.mono (by first | omega | (simp <;> omega)))))
    have HR := Lib.hid ((show Room _ (w.heap.size) 4 from ((HR.out.alloc (by omega) _).alloc (by simp; omega) _)).below hb (by first | omega | (simp <;> omega)))
    clear ho hb
    go_wp2_with fail
    refine (sptimes_fr (dC p q) (dS p q) _).mono ?_
    rintro e w3 ho
    obtain ⟨rfl, hb⟩ := ho.fn
    have kc0 := fun o => hb.cell (p := ⟨w.heap.size, o, none⟩) (by show w.heap.size < _; first | omega | (simp <;> omega))
    have kc1 := fun o => hb.cell (p := ⟨w1.heap.size, o, none⟩) (by show w1.heap.size < _; first | omega | (simp <;> omega))
    have kc2 := fun o => hb.cell (p := ⟨w1.heap.size + 1, o, none⟩) (by show w1.heap.size + 1 < _; first | omega | (simp <;> omega))
    have kc3 := fun o => hb.cell (p := ⟨w2.heap.size, o, none⟩) (by show w2.heap.size < _; first | omega | (simp <;> omega))
    have kf0 := fun o => hb.frozen (p := ⟨w.heap.size, o, none⟩) (by show w.heap.size < _; first | omega | (simp <;> omega))
    have hz := hb.size
    (try simp at hz)
    have kl0 : w.heap.size < w3.heap.size := by omega
    have kn0 : ¬ w.heap.size = w3.heap.size := by omega
    have km0 : ¬ w3.heap.size = w.heap.size := by omega
    have kl1 : w1.heap.size < w3.heap.size := by omega
    have kn1 : ¬ w1.heap.size = w3.heap.size := by omega
    have km1 : ¬ w3.heap.size = w1.heap.size := by omega
    have kl2 : w1.heap.size + 1 < w3.heap.size := by omega
    have kn2 : ¬ w1.heap.size + 1 = w3.heap.size := by omega
    have km2 : ¬ w3.heap.size = w1.heap.size + 1 := by omega
    have kl3 : w2.heap.size < w3.heap.size := by omega
    have kn3 : ¬ w2.heap.size = w3.heap.size := by omega
    have km3 : ¬ w3.heap.size = w2.heap.size := by omega
    have HB := Lib.hid (show Below w.heap.size w w3 from by exact HB.out.trans ((show Below _ _ _ from ((Below.refl _ _).alloc (by omega) _)).trans (hb.mono (by first | omega | (simp <;> omega)))))
    have HR := Lib.hid ((show Room _ (w.heap.size) 4 from (HR.out.alloc (by omega) _)).below hb (by first | omega | (simp <;> omega)))
    clear ho hb
    go_wp2_with fail
    refine (sptimes_fr (dS p q) (dS p q) _).mono ?_
    rintro e w4 ho
    obtain ⟨rfl, hb⟩ := ho.fn
    have kc0 := fun o => hb.cell (p := ⟨w.heap.size, o, none⟩) (by show w.heap.size < _; first | omega | (simp <;> omega))
    have kc1 := fun o => hb.cell (p := ⟨w1.heap.size, o, none⟩) (by show w1.heap.size < _; first | omega | (simp <;> omega))
    have kc2 := fun o => hb.cell (p := ⟨w1.heap.size + 1, o, none⟩) (by show w1.heap.size + 1 < _; first | omega | (simp <;> omega))
    have kc3 := fun o => hb.cell (p := ⟨w2.heap.size, o, none⟩) (by show w2.heap.size < _; first | omega | (simp <;> omega))
    have kc4 := fun o => hb.cell (p := ⟨w3.heap.size, o, none⟩) (by show w3.heap.size < _; first | omega | (simp <;> omega))
    have kf0 := fun o => hb.frozen (p := ⟨w.heap.size, o, none⟩) (by show w.heap.size < _; first | omega | (simp <;> omega))
    have hz := hb.size
    (try simp at hz)
    have kl0 : w.heap.size < w4.heap.size := by omega
    have kn0 : ¬ w.heap.size = w4.heap.size := by omega
    have km0 : ¬ w4.heap.size = w.heap.size := by omega
    have kl1 : w1.heap.size < w4.heap.size := by omega
    have kn1 : ¬ w1.heap.size = w4.heap.size := by omega
    have km1 : ¬ w4.heap.size = w1.heap.size := by omega
    have kl2 : w1.heap.size + 1 < w4.heap.size := by omega
    have kn2 : ¬ w1.heap.size + 1 = w4.heap.size := by omega
    have km2 : ¬ w4.heap.size = w1.heap.size + 1 := by omega
    have kl3 : w2.heap.size < w4.heap.size := by omega
    have kn3 : ¬ w2.heap.size = w4.heap.size := by omega
    have km3 : ¬ w4.heap.size = w2.heap.size := by omega
    have kl4 : w3.heap.size < w4.heap.size := by omega
    have kn4 : ¬ w3.heap.size = w4.heap.size := by omega
    have km4 : ¬ w4.heap.size = w3.heap.size := by omega
    have HB := Lib.hid (show Below w.heap.size w w4 from by exact HB.out.trans ((show Below _ _ _ from ((Below.refl _ _).alloc (by omega) _)).trans (hb.mono (by first | omega | (simp <;> omega)))))
    have HR := Lib.hid ((show Room _ (w.heap.size) 4 from (HR.out.alloc (by omega) _)).below hb (by first | omega | (simp <;> omega)))
    clear ho hb
    go_wp2_with fail
    refine (l5Four_any (fTimes (dC p q) (dC p q)).1 (fTimes (dC p q) (dS p q)).1 (fTimes (dC p q) (dS p q)).1 (fTimes (dS p q) (dS p q)).1 _ _).mono ?_
    rintro e w5 ho
    rw [← HG.out] at ho
    obtain ⟨rfl, hb⟩ := ho.fn
    have kc0 := fun o => hb.cell (p := ⟨w.heap.size, o, none⟩) (by show w.heap.size < _; first | omega | (simp <;> omega))
    have kf0 := fun o => hb.frozen (p := ⟨w.heap.size, o, none⟩) (by show w.heap.size < _; first | omega | (simp <;> omega))
    have hz := hb.size
    (try simp at hz)
    have kl0 : w.heap.size < w5.heap.size := by omega
    have kn0 : ¬ w.heap.size = w5.heap.size := by omega
    have km0 : ¬ w5.heap.size = w.heap.size := by omega
    have HB := Lib.hid (show Below w.heap.size w w5 from by exact HB.out.trans ((show Below _ _ _ from ((Below.refl _ _).alloc (by omega) _)).trans (hb.mono (by first | omega | (simp <;> omega)))))
    have HR := Lib.hid ((show Room _ (w.heap.size) 4 from (HR.out.alloc (by omega) _)).below hb (by first | omega | (simp <;> omega)))
    clear ho hb
    go_wp2
    refine bodyPost_ret (v := .tuple #[.agg #[.int .i64 (gFil p q).1.a.re, .int .i64 (gFil p q).1.a.im, .int .i64 (gFil p q).1.a.den, .int .i64 (gFil p q).1.b.re, .int .i64 (gFil p q).1.b.im, .int .i64 (gFil p q).1.b.den, .int .i64 (gFil p q).1.c.re, .int .i64 (gFil p q).1.c.im, .int .i64 (gFil p q).1.c.den, .int .i64 (gFil p q).1.d.re, .int .i64 (gFil p q).1.d.im, .int .i64 (gFil p q).1.d.den], .bool (gFil p q).2]) ?_ rfl (M4Out.self ?_)
    · exact Eq.trans (results_cell_mid2 Try.results9 _ _ w.heap.size [.int .i64 (gFil p q).1.a.re, .int .i64 (gFil p q).1.a.im, .int .i64 (gFil p q).1.a.den, .int .i64 (gFil p q).1.b.re, .int .i64 (gFil p q).1.b.im, .int .i64 (gFil p q).1.b.den, .int .i64 (gFil p q).1.c.re, .int .i64 (gFil p q).1.c.im, .int .i64 (gFil p q).1.c.den, .int .i64 (gFil p q).1.d.re, .int .i64 (gFil p q).1.d.im, .int .i64 (gFil p q).1.d.den] _ (by rfl) (by ((repeat' first | (with_reducible refine World.rangeAt_setCells_same _ (w.heap.size) 0 [.int .i64 (gFil p q).1.a.re, .int .i64 (gFil p q).1.a.im, .int .i64 (gFil p q).1.a.den, .int .i64 (gFil p q).1.b.re, .int .i64 (gFil p q).1.b.im, .int .i64 (gFil p q).1.b.den, .int .i64 (gFil p q).1.c.re, .int .i64 (gFil p q).1.c.im, .int .i64 (gFil p q).1.c.den, .int .i64 (gFil p q).1.d.re, .int .i64 (gFil p q).1.d.im, .int .i64 (gFil p q).1.d.den] ?_) | (with_reducible refine World.rangeAt_alloc ?_ _) | (with_reducible refine (World.rangeAt_drew _ _ _ _).2 ?_)); first | exact HR.out.there | (have hh := fun W h => World.rangeAt_setCells_same W (w.heap.size) 0 [.int .i64 (gFil p q).1.a.re, .int .i64 (gFil p q).1.a.im, .int .i64 (gFil p q).1.a.den, .int .i64 (gFil p q).1.b.re, .int .i64 (gFil p q).1.b.im, .int .i64 (gFil p q).1.b.den, .int .i64 (gFil p q).1.c.re, .int .i64 (gFil p q).1.c.im, .int .i64 (gFil p q).1.c.den, .int .i64 (gFil p q).1.d.re, .int .i64 (gFil p q).1.d.im, .int .i64 (gFil p q).1.d.den] h; simp only [World.setCells, Nat.zero_add, Nat.reduceAdd] at hh; exact hh _ HR.out.there))) Try.underlying29 rfl (by kernel_rfl)) rfl
    · (repeat' first | (with_reducible exact HB.out) | with_reducible refine setCells_below _ _ _ ?_ (by first | omega | (simp <;> omega)) | with_reducible refine Below.setCell ?_ (by show _ ≤ _; first | omega | (simp <;> omega) | simp) _ | with_reducible refine Below.alloc ?_ (by first | omega | (simp <;> omega)) _ | with_reducible apply Below.drew)
  cases h2 : (fTimes (dC p q) (dS p q)).2
  · have HG : Hid (gFil p q = g4 (fTimes (dC p q) (dC p q)).1 (fTimes (dC p q) (dS p q)).1 (fTimes (dC p q) (dS p q)).1 (fTimes (dS p q) (dS p q)).1 false) := by show _ = _; rw [gFil_g hd]; simp [h1, h2]
    clear hd
    go_enter Try.func9, Try.ntmps9
    go_wp2_with fail
    refine (sdir_any p q _).mono ?_
    rintro e w1 ho
    obtain ⟨rfl, hb⟩ := ho.t HD.out
    have kc0 := fun o => hb.cell (p := ⟨w.heap.size, o, none⟩) (by show w.heap.size < _; first | omega | (simp <;> omega))
    have kf0 := fun o => hb.frozen (p := ⟨w.heap.size, o, none⟩) (by show w.heap.size < _; first | omega | (simp <;> omega))
    have hz := hb.size
    simp at hz
    have kl0 : w.heap.size < w1.heap.size := by omega
    have kn0 : ¬ w.heap.size = w1.heap.size := by omega
    have kn1 : ¬ w.heap.size = w1.heap.size + 1 := by omega
    have kn2 : ¬ w.heap.size = w1.heap.size + 1 + 1 := by omega
    have kn3 : ¬ w.heap.size = w1.heap.size + 2 := by omega
    have HR := Lib.hid (show Room w1 w.heap.size 4 from Room.below (Room.new' rfl rfl) hb (by simp))
    have HB := Lib.hid (show Below w.heap.size w w1 from by (repeat' first | exact Below.refl _ _ | apply bl_alloc | apply bl_drewN | apply bl_drew | refine bl_trans ?_ (by assumption) | refine bl_set ?_ (by first | omega | (simp <;> omega)) _))
    clear ho hb
    go_wp2_with fail
    refine (sptimes_fr (dC p q) (dC p q) _).mono ?_
    rintro e w2 ho
    obtain ⟨rfl, hb⟩ := ho.fn
    have kc0 := fun o => hb.cell (p := ⟨w.heap.size, o, none⟩) (by show w.heap.size < _; first | omega | (simp <;> omega))
    have kc1 := fun o => hb.cell (p := ⟨w1.heap.size, o, none⟩) (by show w1.heap.size < _; first | omega | (simp <;> omega))
    have kc2 := fun o => hb.cell (p := ⟨w1.heap.size + 1, o, none⟩) (by show w1.heap.size + 1 < _; first | omega | (simp <;> omega))
    have kf0 := fun o => hb.frozen (p := ⟨w.heap.size, o, none⟩) (by show w.heap.size < _; first | omega | (simp <;> omega))
    have hz := hb.size
    (try simp at hz)
    have kl0 : w.heap.size < w2.heap.size := by omega
    have kn0 : ¬ w.heap.size = w2.heap.size := by omega
    have km0 : ¬ w2.heap.size = w.heap.size := by omega
    have kl1 : w1.heap.size < w2.heap.size := by omega
    have kn1 : ¬ w1.heap.size = w2.heap.size := by omega
    have km1 : ¬ w2.heap.size = w1.heap.size := by omega
    have kl2 : w1.heap.size + 1 < w2.heap.size := by omega
    have kn2 : ¬ w1.heap.size + 1 = w2.heap.size := by omega
    have km2 : ¬ w2.heap.size = w1.heap.size + 1 := by omega
    have HB := Lib.hid (show Below w.heap.size w w2 from by exact HB.out.trans ((show Below _ _ _ from (((Below.refl _ _).alloc (by omega) _).alloc (by simp; omega) _)).trans (hb.mono (by first | omega | (simp <;> omega)))))
    have HR := Lib.hid ((show Room _ (w.heap.size) 4 from ((HR.out.alloc (by omega) _).alloc (by simp; omega) _)).below hb (by first | omega | (simp <;> omega)))
    clear ho hb
    go_wp2_with fail
    refine (sptimes_fr (dC p q) (dS p q) _).mono ?_
    rintro e w3 ho
    obtain ⟨rfl, hb⟩ := ho.fn
    have kc0 := fun o => hb.cell (p := ⟨w.heap.size, o, none⟩) (by show w.heap.size < _; first | omega | (simp <;> omega))
    have kc1 := fun o => hb.cell (p := ⟨w1.heap.size, o, none⟩) (by show w1.heap.size < _; first | omega | (simp <;> omega))
    have kc2 := fun o => hb.cell (p := ⟨w1.heap.size + 1, o, none⟩) (by show w1.heap.size + 1 < _; first | omega | (simp <;> omega))
    have kc3 := fun o => hb.cell (p := ⟨w2.heap.size, o, none⟩) (by show w2.heap.size < _; first | omega | (simp <;> omega))
    have kf0 := fun o => hb.frozen (p := ⟨w.heap.size, o, none⟩) (by show w.heap.size < _; first | omega | (simp <;> omega))
    have hz := hb.size
    (try simp at hz)
    have kl0 : w.heap.size < w3.heap.size := by omega
    have kn0 : ¬ w.heap.size = w3.heap.size := by omega
    have km0 : ¬ w3.heap.size = w.heap.size := by omega
    have kl1 : w1.heap.size < w3.heap.size := by omega
    have kn1 : ¬ w1.heap.size = w3.heap.size := by omega
    have km1 : ¬ w3.heap.size = w1.heap.size := by omega
    have kl2 : w1.heap.size + 1 < w3.heap.size := by omega
    have kn2 : ¬ w1.heap.size + 1 = w3.heap.size := by omega
    have km2 : ¬ w3.heap.size = w1.heap.size + 1 := by omega
    have kl3 : w2.heap.size < w3.heap.size := by omega
    have kn3 : ¬ w2.heap.size = w3.heap.size := by omega
    have km3 : ¬ w3.heap.size = w2.heap.size := by omega
    have HB := Lib.hid (show Below w.heap.size w w3 from by exact HB.out.trans ((show Below _ _ _ from ((Below.refl _ _).alloc (by omega) _)).trans (hb.mono (by first | omega | (simp <;> omega)))))
    have HR := Lib.hid ((show Room _ (w.heap.size) 4 from (HR.out.alloc (by omega) _)).below hb (by first | omega | (simp <;> omega)))
    clear ho hb
    go_wp2_with fail
    refine (sptimes_fr (dS p q) (dS p q) _).mono ?_
    rintro e w4 ho
    obtain ⟨rfl, hb⟩ := ho.fn
    have kc0 := fun o => hb.cell (p := ⟨w.heap.size, o, none⟩) (by show w.heap.size < _; first | omega | (simp <;> omega))
    have kc1 := fun o => hb.cell (p := ⟨w1.heap.size, o, none⟩) (by show w1.heap.size < _; first | omega | (simp <;> omega))
    have kc2 := fun o => hb.cell (p := ⟨w1.heap.size + 1, o, none⟩) (by show w1.heap.size + 1 < _; first | omega | (simp <;> omega))
    have kc3 := fun o => hb.cell (p := ⟨w2.heap.size, o, none⟩) (by show w2.heap.size < _; first | omega | (simp <;> omega))
    have kc4 := fun o => hb.cell (p := ⟨w3.heap.size, o, none⟩) (by show w3.heap.size < _; first | omega | (simp <;> omega))
    have kf0 := fun o => hb.frozen (p := ⟨w.heap.size, o, none⟩) (by show w.heap.size < _; first | omega | (simp <;> omega))
    have hz := hb.size
    (try simp at hz)
    have kl0 : w.heap.size < w4.heap.size := by omega
    have kn0 : ¬ w.heap.size = w4.heap.size := by omega
    have km0 : ¬ w4.heap.size = w.heap.size := by omega
    have kl1 : w1.heap.size < w4.heap.size := by omega
    have kn1 : ¬ w1.heap.size = w4.heap.size := by omega
    have km1 : ¬ w4.heap.size = w1.heap.size := by omega
    have kl2 : w1.heap.size + 1 < w4.heap.size := by omega
    have kn2 : ¬ w1.heap.size + 1 = w4.heap.size := by omega
    have km2 : ¬ w4.heap.size = w1.heap.size + 1 := by omega
    have kl3 : w2.heap.size < w4.heap.size := by omega
    have kn3 : ¬ w2.heap.size = w4.heap.size := by omega
    have km3 : ¬ w4.heap.size = w2.heap.size := by omega
    have kl4 : w3.heap.size < w4.heap.size := by omega
    have kn4 : ¬ w3.heap.size = w4.heap.size := by omega
    have km4 : ¬ w4.heap.size = w3.heap.size := by omega
    have HB := Lib.hid (show Below w.heap.size w w4 from by exact HB.out.trans ((show Below _ _ _ from ((Below.refl _ _).alloc (by omega) _)).trans (hb.mono (by first | omega | (simp <;> omega)))))
    have HR := Lib.hid ((show Room _ (w.heap.size) 4 from (HR.out.alloc (by omega) _)).below hb (by first | omega | (simp <;> omega)))
    clear ho hb
    go_wp2_with fail
    refine (l5Four_any (fTimes (dC p q) (dC p q)).1 (fTimes (dC p q) (dS p q)).1 (fTimes (dC p q) (dS p q)).1 (fTimes (dS p q) (dS p q)).1 _ _).mono ?_
    rintro e w5 ho
    rw [← HG.out] at ho
    obtain ⟨rfl, hb⟩ := ho.fn
    have kc0 := fun o => hb.cell (p := ⟨w.heap.size, o, none⟩) (by show w.heap.size < _; first | omega | (simp <;> omega))
    have kf0 := fun o => hb.frozen (p := ⟨w.heap.size, o, none⟩) (by show w.heap.size < _; first | omega | (simp <;> omega))
    have hz := hb.size
    (try simp at hz)
    have kl0 : w.heap.size < w5.heap.size := by omega
    have kn0 : ¬ w.heap.size = w5.heap.size := by omega
    have km0 : ¬ w5.heap.size = w.heap.size := by omega
    have HB := Lib.hid (show Below w.heap.size w w5 from by exact HB.out.trans ((show Below _ _ _ from ((Below.refl _ _).alloc (by omega) _)).trans (hb.mono (by first | omega | (simp <;> omega)))))
    have HR := Lib.hid ((show Room _ (w.heap.size) 4 from (HR.out.alloc (by omega) _)).below hb (by first | omega | (simp <;> omega)))
    clear ho hb
    go_wp2
    refine bodyPost_ret (v := .tuple #[.agg #[.int .i64 (gFil p q).1.a.re, .int .i64 (gFil p q).1.a.im, .int .i64 (gFil p q).1.a.den, .int .i64 (gFil p q).1.b.re, .int .i64 (gFil p q).1.b.im, .int .i64 (gFil p q).1.b.den, .int .i64 (gFil p q).1.c.re, .int .i64 (gFil p q).1.c.im, .int .i64 (gFil p q).1.c.den, .int .i64 (gFil p q).1.d.re, .int .i64 (gFil p q).1.d.im, .int .i64 (gFil p q).1.d.den], .bool (gFil p q).2]) ?_ rfl (M4Out.self ?_)
    · exact Eq.trans (results_cell_mid2 Try.results9 _ _ w.heap.size [.int .i64 (gFil p q).1.a.re, .int .i64 (gFil p q).1.a.im, .int .i64 (gFil p q).1.a.den, .int .i64 (gFil p q).1.b.re, .int .i64 (gFil p q).1.b.im, .int .i64 (gFil p q).1.b.den, .int .i64 (gFil p q).1.c.re, .int .i64 (gFil p q).1.c.im, .int .i64 (gFil p q).1.c.den, .int .i64 (gFil p q).1.d.re, .int .i64 (gFil p q).1.d.im, .int .i64 (gFil p q).1.d.den] _ (by rfl) (by ((repeat' first | (with_reducible refine World.rangeAt_setCells_same _ (w.heap.size) 0 [.int .i64 (gFil p q).1.a.re, .int .i64 (gFil p q).1.a.im, .int .i64 (gFil p q).1.a.den, .int .i64 (gFil p q).1.b.re, .int .i64 (gFil p q).1.b.im, .int .i64 (gFil p q).1.b.den, .int .i64 (gFil p q).1.c.re, .int .i64 (gFil p q).1.c.im, .int .i64 (gFil p q).1.c.den, .int .i64 (gFil p q).1.d.re, .int .i64 (gFil p q).1.d.im, .int .i64 (gFil p q).1.d.den] ?_) | (with_reducible refine World.rangeAt_alloc ?_ _) | (with_reducible refine (World.rangeAt_drew _ _ _ _).2 ?_)); first | exact HR.out.there | (have hh := fun W h => World.rangeAt_setCells_same W (w.heap.size) 0 [.int .i64 (gFil p q).1.a.re, .int .i64 (gFil p q).1.a.im, .int .i64 (gFil p q).1.a.den, .int .i64 (gFil p q).1.b.re, .int .i64 (gFil p q).1.b.im, .int .i64 (gFil p q).1.b.den, .int .i64 (gFil p q).1.c.re, .int .i64 (gFil p q).1.c.im, .int .i64 (gFil p q).1.c.den, .int .i64 (gFil p q).1.d.re, .int .i64 (gFil p q).1.d.im, .int .i64 (gFil p q).1.d.den] h; simp only [World.setCells, Nat.zero_add, Nat.reduceAdd] at hh; exact hh _ HR.out.there))) Try.underlying29 rfl (by kernel_rfl)) rfl
    · (repeat' first | (with_reducible exact HB.out) | with_reducible refine setCells_below _ _ _ ?_ (by first | omega | (simp <;> omega)) | with_reducible refine Below.setCell ?_ (by show _ ≤ _; first | omega | (simp <;> omega) | simp) _ | with_reducible refine Below.alloc ?_ (by first | omega | (simp <;> omega)) _ | with_reducible apply Below.drew)
  cases h3 : (fTimes (dS p q) (dS p q)).2
  · have HG : Hid (gFil p q = g4 (fTimes (dC p q) (dC p q)).1 (fTimes (dC p q) (dS p q)).1 (fTimes (dC p q) (dS p q)).1 (fTimes (dS p q) (dS p q)).1 false) := by show _ = _; rw [gFil_g hd]; simp [h1, h2, h3]
    clear hd
    go_enter Try.func9, Try.ntmps9
    go_wp2_with fail
    refine (sdir_any p q _).mono ?_
    rintro e w1 ho
    obtain ⟨rfl, hb⟩ := ho.t HD.out
    have kc0 := fun o => hb.cell (p := ⟨w.heap.size, o, none⟩) (by show w.heap.size < _; first | omega | (simp <;> omega))
    have kf0 := fun o => hb.frozen (p := ⟨w.heap.size, o, none⟩) (by show w.heap.size < _; first | omega | (simp <;> omega))
    have hz := hb.size
    simp at hz
    have kl0 : w.heap.size < w1.heap.size := by omega
    have kn0 : ¬ w.heap.size = w1.heap.size := by omega
    have kn1 : ¬ w.heap.size = w1.heap.size + 1 := by omega
    have kn2 : ¬ w.heap.size = w1.heap.size + 1 + 1 := by omega
    have kn3 : ¬ w.heap.size = w1.heap.size + 2 := by omega
    have HR := Lib.hid (show Room w1 w.heap.size 4 from Room.below (Room.new' rfl rfl) hb (by simp))
    have HB := Lib.hid (show Below w.heap.size w w1 from by (repeat' first | exact Below.refl _ _ | apply bl_alloc | apply bl_drewN | apply bl_drew | refine bl_trans ?_ (by assumption) | refine bl_set ?_ (by first | omega | (simp <;> omega)) _))
    clear ho hb
    go_wp2_with fail
    refine (sptimes_fr (dC p q) (dC p q) _).mono ?_
    rintro e w2 ho
    obtain ⟨rfl, hb⟩ := ho.fn
    have kc0 := fun o => hb.cell (p := ⟨w.heap.size, o, none⟩) (by show w.heap.size < _; first | omega | (simp <;> omega))
    have kc1 := fun o => hb.cell (p := ⟨w1.heap.size, o, none⟩) (by show w1.heap.size < _; first | omega | (simp <;> omega))
    have kc2 := fun o => hb.cell (p := ⟨w1.heap.size + 1, o, none⟩) (by show w1.heap.size + 1 < _; first | omega | (simp <;> omega))
    have kf0 := fun o => hb.frozen (p := ⟨w.heap.size, o, none⟩) (by show w.heap.size < _; first | omega | (simp <;> omega))
    have hz := hb.size
    (try simp at hz)
    have kl0 : w.heap.size < w2.heap.size := by omega
    have kn0 : ¬ w.heap.size = w2.heap.size := by omega
    have km0 : ¬ w2.heap.size = w.heap.size := by omega
    have kl1 : w1.heap.size < w2.heap.size := by omega
    have kn1 : ¬ w1.heap.size = w2.heap.size := by omega
    have km1 : ¬ w2.heap.size = w1.heap.size := by omega
    have kl2 : w1.heap.size + 1 < w2.heap.size := by omega
    have kn2 : ¬ w1.heap.size + 1 = w2.heap.size := by omega
    have km2 : ¬ w2.heap.size = w1.heap.size + 1 := by omega
    have HB := Lib.hid (show Below w.heap.size w w2 from by exact HB.out.trans ((show Below _ _ _ from (((Below.refl _ _).alloc (by omega) _).alloc (by simp; omega) _)).trans (hb.mono (by first | omega | (simp <;> omega)))))
    have HR := Lib.hid ((show Room _ (w.heap.size) 4 from ((HR.out.alloc (by omega) _).alloc (by simp; omega) _)).below hb (by first | omega | (simp <;> omega)))
    clear ho hb
    go_wp2_with fail
    refine (sptimes_fr (dC p q) (dS p q) _).mono ?_
    rintro e w3 ho
    obtain ⟨rfl, hb⟩ := ho.fn
    have kc0 := fun o => hb.cell (p := ⟨w.heap.size, o, none⟩) (by show w.heap.size < _; first | omega | (simp <;> omega))
    have kc1 := fun o => hb.cell (p := ⟨w1.heap.size, o, none⟩) (by show w1.heap.size < _; first | omega | (simp <;> omega))
    have kc2 := fun o => hb.cell (p := ⟨w1.heap.size + 1, o, none⟩) (by show w1.heap.size + 1 < _; first | omega | (simp <;> omega))
    have kc3 := fun o => hb.cell (p := ⟨w2.heap.size, o, none⟩) (by show w2.heap.size < _; first | omega | (simp <;> omega))
    have kf0 := fun o => hb.frozen (p := ⟨w.heap.size, o, none⟩) (by show w.heap.size < _; first | omega | (simp <;> omega))
    have hz := hb.size
    (try simp at hz)
    have kl0 : w.heap.size < w3.heap.size := by omega
    have kn0 : ¬ w.heap.size = w3.heap.size := by omega
    have km0 : ¬ w3.heap.size = w.heap.size := by omega
    have kl1 : w1.heap.size < w3.heap.size := by omega
    have kn1 : ¬ w1.heap.size = w3.heap.size := by omega
    have km1 : ¬ w3.heap.size = w1.heap.size := by omega
    have kl2 : w1.heap.size + 1 < w3.heap.size := by omega
    have kn2 : ¬ w1.heap.size + 1 = w3.heap.size := by omega
    have km2 : ¬ w3.heap.size = w1.heap.size + 1 := by omega
    have kl3 : w2.heap.size < w3.heap.size := by omega
    have kn3 : ¬ w2.heap.size = w3.heap.size := by omega
    have km3 : ¬ w3.heap.size = w2.heap.size := by omega
    have HB := Lib.hid (show Below w.heap.size w w3 from by exact HB.out.trans ((show Below _ _ _ from ((Below.refl _ _).alloc (by omega) _)).trans (hb.mono (by first | omega | (simp <;> omega)))))
    have HR := Lib.hid ((show Room _ (w.heap.size) 4 from (HR.out.alloc (by omega) _)).below hb (by first | omega | (simp <;> omega)))
    clear ho hb
    go_wp2_with fail
    refine (sptimes_fr (dS p q) (dS p q) _).mono ?_
    rintro e w4 ho
    obtain ⟨rfl, hb⟩ := ho.fn
    have kc0 := fun o => hb.cell (p := ⟨w.heap.size, o, none⟩) (by show w.heap.size < _; first | omega | (simp <;> omega))
    have kc1 := fun o => hb.cell (p := ⟨w1.heap.size, o, none⟩) (by show w1.heap.size < _; first | omega | (simp <;> omega))
    have kc2 := fun o => hb.cell (p := ⟨w1.heap.size + 1, o, none⟩) (by show w1.heap.size + 1 < _; first | omega | (simp <;> omega))
    have kc3 := fun o => hb.cell (p := ⟨w2.heap.size, o, none⟩) (by show w2.heap.size < _; first | omega | (simp <;> omega))
    have kc4 := fun o => hb.cell (p := ⟨w3.heap.size, o, none⟩) (by show w3.heap.size < _; first | omega | (simp <;> omega))
    have kf0 := fun o => hb.frozen (p := ⟨w.heap.size, o, none⟩) (by show w.heap.size < _; first | omega | (simp <;> omega))
    have hz := hb.size
    (try simp at hz)
    have kl0 : w.heap.size < w4.heap.size := by omega
    have kn0 : ¬ w.heap.size = w4.heap.size := by omega
    have km0 : ¬ w4.heap.size = w.heap.size := by omega
    have kl1 : w1.heap.size < w4.heap.size := by omega
    have kn1 : ¬ w1.heap.size = w4.heap.size := by omega
    have km1 : ¬ w4.heap.size = w1.heap.size := by omega
    have kl2 : w1.heap.size + 1 < w4.heap.size := by omega
    have kn2 : ¬ w1.heap.size + 1 = w4.heap.size := by omega
    have km2 : ¬ w4.heap.size = w1.heap.size + 1 := by omega
    have kl3 : w2.heap.size < w4.heap.size := by omega
    have kn3 : ¬ w2.heap.size = w4.heap.size := by omega
    have km3 : ¬ w4.heap.size = w2.heap.size := by omega
    have kl4 : w3.heap.size < w4.heap.size := by omega
    have kn4 : ¬ w3.heap.size = w4.heap.size := by omega
    have km4 : ¬ w4.heap.size = w3.heap.size := by omega
    have HB := Lib.hid (show Below w.heap.size w w4 from by exact HB.out.trans ((show Below _ _ _ from ((Below.refl _ _).alloc (by omega) _)).trans (hb.mono (by first | omega | (simp <;> omega)))))
    have HR := Lib.hid ((show Room _ (w.heap.size) 4 from (HR.out.alloc (by omega) _)).below hb (by first | omega | (simp <;> omega)))
    clear ho hb
    go_wp2_with fail
    refine (l5Four_any (fTimes (dC p q) (dC p q)).1 (fTimes (dC p q) (dS p q)).1 (fTimes (dC p q) (dS p q)).1 (fTimes (dS p q) (dS p q)).1 _ _).mono ?_
    rintro e w5 ho
    rw [← HG.out] at ho
    obtain ⟨rfl, hb⟩ := ho.fn
    have kc0 := fun o => hb.cell (p := ⟨w.heap.size, o, none⟩) (by show w.heap.size < _; first | omega | (simp <;> omega))
    have kf0 := fun o => hb.frozen (p := ⟨w.heap.size, o, none⟩) (by show w.heap.size < _; first | omega | (simp <;> omega))
    have hz := hb.size
    (try simp at hz)
    have kl0 : w.heap.size < w5.heap.size := by omega
    have kn0 : ¬ w.heap.size = w5.heap.size := by omega
    have km0 : ¬ w5.heap.size = w.heap.size := by omega
    have HB := Lib.hid (show Below w.heap.size w w5 from by exact HB.out.trans ((show Below _ _ _ from ((Below.refl _ _).alloc (by omega) _)).trans (hb.mono (by first | omega | (simp <;> omega)))))
    have HR := Lib.hid ((show Room _ (w.heap.size) 4 from (HR.out.alloc (by omega) _)).below hb (by first | omega | (simp <;> omega)))
    clear ho hb
    go_wp2
    refine bodyPost_ret (v := .tuple #[.agg #[.int .i64 (gFil p q).1.a.re, .int .i64 (gFil p q).1.a.im, .int .i64 (gFil p q).1.a.den, .int .i64 (gFil p q).1.b.re, .int .i64 (gFil p q).1.b.im, .int .i64 (gFil p q).1.b.den, .int .i64 (gFil p q).1.c.re, .int .i64 (gFil p q).1.c.im, .int .i64 (gFil p q).1.c.den, .int .i64 (gFil p q).1.d.re, .int .i64 (gFil p q).1.d.im, .int .i64 (gFil p q).1.d.den], .bool (gFil p q).2]) ?_ rfl (M4Out.self ?_)
    · exact Eq.trans (results_cell_mid2 Try.results9 _ _ w.heap.size [.int .i64 (gFil p q).1.a.re, .int .i64 (gFil p q).1.a.im, .int .i64 (gFil p q).1.a.den, .int .i64 (gFil p q).1.b.re, .int .i64 (gFil p q).1.b.im, .int .i64 (gFil p q).1.b.den, .int .i64 (gFil p q).1.c.re, .int .i64 (gFil p q).1.c.im, .int .i64 (gFil p q).1.c.den, .int .i64 (gFil p q).1.d.re, .int .i64 (gFil p q).1.d.im, .int .i64 (gFil p q).1.d.den] _ (by rfl) (by ((repeat' first | (with_reducible refine World.rangeAt_setCells_same _ (w.heap.size) 0 [.int .i64 (gFil p q).1.a.re, .int .i64 (gFil p q).1.a.im, .int .i64 (gFil p q).1.a.den, .int .i64 (gFil p q).1.b.re, .int .i64 (gFil p q).1.b.im, .int .i64 (gFil p q).1.b.den, .int .i64 (gFil p q).1.c.re, .int .i64 (gFil p q).1.c.im, .int .i64 (gFil p q).1.c.den, .int .i64 (gFil p q).1.d.re, .int .i64 (gFil p q).1.d.im, .int .i64 (gFil p q).1.d.den] ?_) | (with_reducible refine World.rangeAt_alloc ?_ _) | (with_reducible refine (World.rangeAt_drew _ _ _ _).2 ?_)); first | exact HR.out.there | (have hh := fun W h => World.rangeAt_setCells_same W (w.heap.size) 0 [.int .i64 (gFil p q).1.a.re, .int .i64 (gFil p q).1.a.im, .int .i64 (gFil p q).1.a.den, .int .i64 (gFil p q).1.b.re, .int .i64 (gFil p q).1.b.im, .int .i64 (gFil p q).1.b.den, .int .i64 (gFil p q).1.c.re, .int .i64 (gFil p q).1.c.im, .int .i64 (gFil p q).1.c.den, .int .i64 (gFil p q).1.d.re, .int .i64 (gFil p q).1.d.im, .int .i64 (gFil p q).1.d.den] h; simp only [World.setCells, Nat.zero_add, Nat.reduceAdd] at hh; exact hh _ HR.out.there))) Try.underlying29 rfl (by kernel_rfl)) rfl
    · (repeat' first | (with_reducible exact HB.out) | with_reducible refine setCells_below _ _ _ ?_ (by first | omega | (simp <;> omega)) | with_reducible refine Below.setCell ?_ (by show _ ≤ _; first | omega | (simp <;> omega) | simp) _ | with_reducible refine Below.alloc ?_ (by first | omega | (simp <;> omega)) _ | with_reducible apply Below.drew)
  · have HG : Hid (gFil p q = g4 (fTimes (dC p q) (dC p q)).1 (fTimes (dC p q) (dS p q)).1 (fTimes (dC p q) (dS p q)).1 (fTimes (dS p q) (dS p q)).1 true) := by show _ = _; rw [gFil_g hd]; simp [h1, h2, h3]
    clear hd
    go_enter Try.func9, Try.ntmps9
    go_wp2_with fail
    refine (sdir_any p q _).mono ?_
    rintro e w1 ho
    obtain ⟨rfl, hb⟩ := ho.t HD.out
    have kc0 := fun o => hb.cell (p := ⟨w.heap.size, o, none⟩) (by show w.heap.size < _; first | omega | (simp <;> omega))
    have kf0 := fun o => hb.frozen (p := ⟨w.heap.size, o, none⟩) (by show w.heap.size < _; first | omega | (simp <;> omega))
    have hz := hb.size
    simp at hz
    have kl0 : w.heap.size < w1.heap.size := by omega
    have kn0 : ¬ w.heap.size = w1.heap.size := by omega
    have kn1 : ¬ w.heap.size = w1.heap.size + 1 := by omega
    have kn2 : ¬ w.heap.size = w1.heap.size + 1 + 1 := by omega
    have kn3 : ¬ w.heap.size = w1.heap.size + 2 := by omega
    have HR := Lib.hid (show Room w1 w.heap.size 4 from Room.below (Room.new' rfl rfl) hb (by simp))
    have HB := Lib.hid (show Below w.heap.size w w1 from by (repeat' first | exact Below.refl _ _ | apply bl_alloc | apply bl_drewN | apply bl_drew | refine bl_trans ?_ (by assumption) | refine bl_set ?_ (by first | omega | (simp <;> omega)) _))
    clear ho hb
    go_wp2_with fail
    refine (sptimes_fr (dC p q) (dC p q) _).mono ?_
    rintro e w2 ho
    obtain ⟨rfl, hb⟩ := ho.fn
    have kc0 := fun o => hb.cell (p := ⟨w.heap.size, o, none⟩) (by show w.heap.size < _; first | omega | (simp <;> omega))
    have kc1 := fun o => hb.cell (p := ⟨w1.heap.size, o, none⟩) (by show w1.heap.size < _; first | omega | (simp <;> omega))
    have kc2 := fun o => hb.cell (p := ⟨w1.heap.size + 1, o, none⟩) (by show w1.heap.size + 1 < _; first | omega | (simp <;> omega))
    have kf0 := fun o => hb.frozen (p := ⟨w.heap.size, o, none⟩) (by show w.heap.size < _; first | omega | (simp <;> omega))
    have hz := hb.size
    (try simp at hz)
    have kl0 : w.heap.size < w2.heap.size := by omega
    have kn0 : ¬ w.heap.size = w2.heap.size := by omega
    have km0 : ¬ w2.heap.size = w.heap.size := by omega
    have kl1 : w1.heap.size < w2.heap.size := by omega
    have kn1 : ¬ w1.heap.size = w2.heap.size := by omega
    have km1 : ¬ w2.heap.size = w1.heap.size := by omega
    have kl2 : w1.heap.size + 1 < w2.heap.size := by omega
    have kn2 : ¬ w1.heap.size + 1 = w2.heap.size := by omega
    have km2 : ¬ w2.heap.size = w1.heap.size + 1 := by omega
    have HB := Lib.hid (show Below w.heap.size w w2 from by exact HB.out.trans ((show Below _ _ _ from (((Below.refl _ _).alloc (by omega) _).alloc (by simp; omega) _)).trans (hb.mono (by first | omega | (simp <;> omega)))))
    have HR := Lib.hid ((show Room _ (w.heap.size) 4 from ((HR.out.alloc (by omega) _).alloc (by simp; omega) _)).below hb (by first | omega | (simp <;> omega)))
    clear ho hb
    go_wp2_with fail
    refine (sptimes_fr (dC p q) (dS p q) _).mono ?_
    rintro e w3 ho
    obtain ⟨rfl, hb⟩ := ho.fn
    have kc0 := fun o => hb.cell (p := ⟨w.heap.size, o, none⟩) (by show w.heap.size < _; first | omega | (simp <;> omega))
    have kc1 := fun o => hb.cell (p := ⟨w1.heap.size, o, none⟩) (by show w1.heap.size < _; first | omega | (simp <;> omega))
    have kc2 := fun o => hb.cell (p := ⟨w1.heap.size + 1, o, none⟩) (by show w1.heap.size + 1 < _; first | omega | (simp <;> omega))
    have kc3 := fun o => hb.cell (p := ⟨w2.heap.size, o, none⟩) (by show w2.heap.size < _; first | omega | (simp <;> omega))
    have kf0 := fun o => hb.frozen (p := ⟨w.heap.size, o, none⟩) (by show w.heap.size < _; first | omega | (simp <;> omega))
    have hz := hb.size
    (try simp at hz)
    have kl0 : w.heap.size < w3.heap.size := by omega
    have kn0 : ¬ w.heap.size = w3.heap.size := by omega
    have km0 : ¬ w3.heap.size = w.heap.size := by omega
    have kl1 : w1.heap.size < w3.heap.size := by omega
    have kn1 : ¬ w1.heap.size = w3.heap.size := by omega
    have km1 : ¬ w3.heap.size = w1.heap.size := by omega
    have kl2 : w1.heap.size + 1 < w3.heap.size := by omega
    have kn2 : ¬ w1.heap.size + 1 = w3.heap.size := by omega
    have km2 : ¬ w3.heap.size = w1.heap.size + 1 := by omega
    have kl3 : w2.heap.size < w3.heap.size := by omega
    have kn3 : ¬ w2.heap.size = w3.heap.size := by omega
    have km3 : ¬ w3.heap.size = w2.heap.size := by omega
    have HB := Lib.hid (show Below w.heap.size w w3 from by exact HB.out.trans ((show Below _ _ _ from ((Below.refl _ _).alloc (by omega) _)).trans (hb.mono (by first | omega | (simp <;> omega)))))
    have HR := Lib.hid ((show Room _ (w.heap.size) 4 from (HR.out.alloc (by omega) _)).below hb (by first | omega | (simp <;> omega)))
    clear ho hb
    go_wp2_with fail
    refine (sptimes_fr (dS p q) (dS p q) _).mono ?_
    rintro e w4 ho
    obtain ⟨rfl, hb⟩ := ho.fn
    have kc0 := fun o => hb.cell (p := ⟨w.heap.size, o, none⟩) (by show w.heap.size < _; first | omega | (simp <;> omega))
    have kc1 := fun o => hb.cell (p := ⟨w1.heap.size, o, none⟩) (by show w1.heap.size < _; first | omega | (simp <;> omega))
    have kc2 := fun o => hb.cell (p := ⟨w1.heap.size + 1, o, none⟩) (by show w1.heap.size + 1 < _; first | omega | (simp <;> omega))
    have kc3 := fun o => hb.cell (p := ⟨w2.heap.size, o, none⟩) (by show w2.heap.size < _; first | omega | (simp <;> omega))
    have kc4 := fun o => hb.cell (p := ⟨w3.heap.size, o, none⟩) (by show w3.heap.size < _; first | omega | (simp <;> omega))
    have kf0 := fun o => hb.frozen (p := ⟨w.heap.size, o, none⟩) (by show w.heap.size < _; first | omega | (simp <;> omega))
    have hz := hb.size
    (try simp at hz)
    have kl0 : w.heap.size < w4.heap.size := by omega
    have kn0 : ¬ w.heap.size = w4.heap.size := by omega
    have km0 : ¬ w4.heap.size = w.heap.size := by omega
    have kl1 : w1.heap.size < w4.heap.size := by omega
    have kn1 : ¬ w1.heap.size = w4.heap.size := by omega
    have km1 : ¬ w4.heap.size = w1.heap.size := by omega
    have kl2 : w1.heap.size + 1 < w4.heap.size := by omega
    have kn2 : ¬ w1.heap.size + 1 = w4.heap.size := by omega
    have km2 : ¬ w4.heap.size = w1.heap.size + 1 := by omega
    have kl3 : w2.heap.size < w4.heap.size := by omega
    have kn3 : ¬ w2.heap.size = w4.heap.size := by omega
    have km3 : ¬ w4.heap.size = w2.heap.size := by omega
    have kl4 : w3.heap.size < w4.heap.size := by omega
    have kn4 : ¬ w3.heap.size = w4.heap.size := by omega
    have km4 : ¬ w4.heap.size = w3.heap.size := by omega
    have HB := Lib.hid (show Below w.heap.size w w4 from by exact HB.out.trans ((show Below _ _ _ from ((Below.refl _ _).alloc (by omega) _)).trans (hb.mono (by first | omega | (simp <;> omega)))))
    have HR := Lib.hid ((show Room _ (w.heap.size) 4 from (HR.out.alloc (by omega) _)).below hb (by first | omega | (simp <;> omega)))
    clear ho hb
    go_wp2_with fail
    refine (l5Four_any (fTimes (dC p q) (dC p q)).1 (fTimes (dC p q) (dS p q)).1 (fTimes (dC p q) (dS p q)).1 (fTimes (dS p q) (dS p q)).1 _ _).mono ?_
    rintro e w5 ho
    rw [← HG.out] at ho
    obtain ⟨rfl, hb⟩ := ho.fn
    have kc0 := fun o => hb.cell (p := ⟨w.heap.size, o, none⟩) (by show w.heap.size < _; first | omega | (simp <;> omega))
    have kf0 := fun o => hb.frozen (p := ⟨w.heap.size, o, none⟩) (by show w.heap.size < _; first | omega | (simp <;> omega))
    have hz := hb.size
    (try simp at hz)
    have kl0 : w.heap.size < w5.heap.size := by omega
    have kn0 : ¬ w.heap.size = w5.heap.size := by omega
    have km0 : ¬ w5.heap.size = w.heap.size := by omega
    have HB := Lib.hid (show Below w.heap.size w w5 from by exact HB.out.trans ((show Below _ _ _ from ((Below.refl _ _).alloc (by omega) _)).trans (hb.mono (by first | omega | (simp <;> omega)))))
    have HR := Lib.hid ((show Room _ (w.heap.size) 4 from (HR.out.alloc (by omega) _)).below hb (by first | omega | (simp <;> omega)))
    clear ho hb
    go_wp2
    refine bodyPost_ret (v := .tuple #[.agg #[.int .i64 (gFil p q).1.a.re, .int .i64 (gFil p q).1.a.im, .int .i64 (gFil p q).1.a.den, .int .i64 (gFil p q).1.b.re, .int .i64 (gFil p q).1.b.im, .int .i64 (gFil p q).1.b.den, .int .i64 (gFil p q).1.c.re, .int .i64 (gFil p q).1.c.im, .int .i64 (gFil p q).1.c.den, .int .i64 (gFil p q).1.d.re, .int .i64 (gFil p q).1.d.im, .int .i64 (gFil p q).1.d.den], .bool (gFil p q).2]) ?_ rfl (M4Out.self ?_)
    · exact Eq.trans (results_cell_mid2 Try.results9 _ _ w.heap.size [.int .i64 (gFil p q).1.a.re, .int .i64 (gFil p q).1.a.im, .int .i64 (gFil p q).1.a.den, .int .i64 (gFil p q).1.b.re, .int .i64 (gFil p q).1.b.im, .int .i64 (gFil p q).1.b.den, .int .i64 (gFil p q).1.c.re, .int .i64 (gFil p q).1.c.im, .int .i64 (gFil p q).1.c.den, .int .i64 (gFil p q).1.d.re, .int .i64 (gFil p q).1.d.im, .int .i64 (gFil p q).1.d.den] _ (by rfl) (by ((repeat' first | (with_reducible refine World.rangeAt_setCells_same _ (w.heap.size) 0 [.int .i64 (gFil p q).1.a.re, .int .i64 (gFil p q).1.a.im, .int .i64 (gFil p q).1.a.den, .int .i64 (gFil p q).1.b.re, .int .i64 (gFil p q).1.b.im, .int .i64 (gFil p q).1.b.den, .int .i64 (gFil p q).1.c.re, .int .i64 (gFil p q).1.c.im, .int .i64 (gFil p q).1.c.den, .int .i64 (gFil p q).1.d.re, .int .i64 (gFil p q).1.d.im, .int .i64 (gFil p q).1.d.den] ?_) | (with_reducible refine World.rangeAt_alloc ?_ _) | (with_reducible refine (World.rangeAt_drew _ _ _ _).2 ?_)); first | exact HR.out.there | (have hh := fun W h => World.rangeAt_setCells_same W (w.heap.size) 0 [.int .i64 (gFil p q).1.a.re, .int .i64 (gFil p q).1.a.im, .int .i64 (gFil p q).1.a.den, .int .i64 (gFil p q).1.b.re, .int .i64 (gFil p q).1.b.im, .int .i64 (gFil p q).1.b.den, .int .i64 (gFil p q).1.c.re, .int .i64 (gFil p q).1.c.im, .int .i64 (gFil p q).1.c.den, .int .i64 (gFil p q).1.d.re, .int .i64 (gFil p q).1.d.im, .int .i64 (gFil p q).1.d.den] h; simp only [World.setCells, Nat.zero_add, Nat.reduceAdd] at hh; exact hh _ HR.out.there))) Try.underlying29 rfl (by kernel_rfl)) rfl
    · (repeat' first | (with_reducible exact HB.out) | with_reducible refine setCells_below _ _ _ ?_ (by first | omega | (simp <;> omega)) | with_reducible refine Below.setCell ?_ (by show _ ≤ _; first | omega | (simp <;> omega) | simp) _ | with_reducible refine Below.alloc ?_ (by first | omega | (simp <;> omega)) _ | with_reducible apply Below.drew)
end Go.Proofs.Ytcpdapfcbnhgaaa
