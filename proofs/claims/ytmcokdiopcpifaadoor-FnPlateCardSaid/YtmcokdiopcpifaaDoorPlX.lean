/- Contracts: directions. -/
import Derived.Test.YtmcokdiopcpifaaDoorPlG9
set_option maxRecDepth 100000
namespace Go.Proofs.YtmcokdiopcpifaaDoor
open Go.RowKit Pol
theorem cell_new_at (w : World) (cs : Array Value) (t : TypeId) (j n : Nat) (hn : n = w.heap.size) : (w.alloc (.cells cs t)).cell? ⟨n, j, none⟩ = cs[j]? := by
  subst hn; exact cell_of_row _ _ j cs t _ (heap_alloc_new w _)
theorem results_cells2 {P : Program} {fn : Func} {p q u : Tmp} {ty : TypeId} (h : fn.results = #[.cell p ty, .cell q ty, .tmp u]) (tmps : Array Value) (w : World) (g k : Nat) (cs ds : List Value) (d : TypeDesc)
    (hp : tmps.getD p undef = .pointer (some ⟨g, 0, none⟩)) (hq : tmps.getD q undef = .pointer (some ⟨k, 0, none⟩)) (hc : w.rangeAt g 0 cs) (hk : w.rangeAt k 0 ds) (hu : P.underlying ty = some d) (hd : d.isRow = true) (hi : (P.info? ty).map (·.size) = some cs.length) (hj : (P.info? ty).map (·.size) = some ds.length) :
    (results fn tmps).run P w = .ok (.tuple #[.agg cs.toArray, .agg ds.toArray, tmps.getD u undef]) w := by
  have hp' : tmps[p]?.getD undef = .pointer (some ⟨g, 0, none⟩) := by simpa using hp
  have hq' : tmps[q]?.getD undef = .pointer (some ⟨k, 0, none⟩) := by simpa using hq
  simp [results, h, hp', hq', asAddr, run_loadVar_mid w g 0 ty cs d hc hu hd hi, run_loadVar_mid w k 0 ty ds d hk hu hd hj]
theorem two_ranges {W : World} {g k : Nat} (cs ds : List Value) (o : Obj) {n : Nat} (hg : Room W g n) (hk : Room W k n) (hn : g ≠ k) (h1 : cs.length = n * 3) (h2 : ds.length = n * 3) :
    (((W.setCells g 0 cs).setCells k 0 ds).alloc o).drew.rangeAt g 0 cs ∧ (((W.setCells g 0 cs).setCells k 0 ds).alloc o).drew.rangeAt k 0 ds :=
  ⟨(World.rangeAt_drew _ _ _ _).2 (World.rangeAt_alloc (World.rangeAt_setCells_apart (World.rangeAt_setCells_same W g 0 cs (h1 ▸ hg.there)) k 0 ds (Or.inl hn)) o),
   (World.rangeAt_drew _ _ _ _).2 (World.rangeAt_alloc (World.rangeAt_setCells_same _ k 0 ds (h2 ▸ World.there_setCells hk.there g 0 cs)) o)⟩
/-- What a call hands back that makes the two fractions of a direction. -/
def DirOut (p q : Int) (w : World) (e : Ending) (w' : World) : Prop :=
  e = .returned (if dirB p q = true then .tuple #[.agg #[.int .i64 (dC p q).re, .int .i64 (dC p q).im, .int .i64 (dC p q).den], .agg #[.int .i64 (dS p q).re, .int .i64 (dS p q).im, .int .i64 (dS p q).den], .bool true] else .tuple #[.agg #[.int .i64 0, .int .i64 0, .int .i64 0], .agg #[.int .i64 0, .int .i64 0, .int .i64 0], .bool false]) ∧ Below w.heap.size w w'
theorem DirOut.yes {p q : Int} {w w' : World} (h : dirB p q = true) (hb : Below w.heap.size w w') : DirOut p q w (.returned (.tuple #[.agg #[.int .i64 (dC p q).re, .int .i64 (dC p q).im, .int .i64 (dC p q).den], .agg #[.int .i64 (dS p q).re, .int .i64 (dS p q).im, .int .i64 (dS p q).den], .bool true])) w' := ⟨by rw [if_pos h], hb⟩
theorem DirOut.no {p q : Int} {w w' : World} (h : dirB p q = false) (hb : Below w.heap.size w w') : DirOut p q w (.returned (.tuple #[.agg #[.int .i64 0, .int .i64 0, .int .i64 0], .agg #[.int .i64 0, .int .i64 0, .int .i64 0], .bool false])) w' := ⟨by rw [if_neg (by rw [h]; simp)], hb⟩
set_option maxRecDepth 100000 in
set_option maxHeartbeats 4000000 in
theorem idir_any (p q : Int) (w : World) :
    Calls Tryd.prog 133 #[.int .i64 p, .int .i64 q] w (DirOut p q w) := by
  cases h1 : wi p (-100) 100
  · have HD : Hid (dirB p q = false) := by show _ = _; unfold dirB; rw [h1]; rfl
    have H1 := Lib.hid h1; clear h1
    have H2 : Hid True := trivial
    go_enter Tryd.func133, Tryd.ntmps133
    go_wp2_with (go_at_call 63; (first | (with_reducible refine (within_b H1.out _).mono ?_) | (with_reducible refine (within_b H2.out _).mono ?_)); rintro e w0 ⟨rfl, rfl⟩)
    refine bodyPost_ret (v := .tuple #[.agg #[.int .i64 0, .int .i64 0, .int .i64 0], .agg #[.int .i64 0, .int .i64 0, .int .i64 0], .bool false]) (by simp [results, Tryd.results133, go_sem]) rfl (DirOut.no HD.out ?_)
    (repeat' first | exact Below.refl _ _ | apply bl_alloc | apply bl_drewN | apply bl_drew | refine bl_trans ?_ (by assumption) | refine bl_set ?_ (by first | omega | (simp <;> omega)) _)
  cases h2 : wi q (-100) 100
  · have HD : Hid (dirB p q = false) := by show _ = _; unfold dirB; rw [h1, h2]; rfl
    have H1 := Lib.hid h1; have H2 := Lib.hid h2; clear h1 h2
    go_enter Tryd.func133, Tryd.ntmps133
    go_wp2_with (go_at_call 63; (first | (with_reducible refine (within_b H1.out _).mono ?_) | (with_reducible refine (within_b H2.out _).mono ?_)); rintro e w0 ⟨rfl, rfl⟩)
    refine bodyPost_ret (v := .tuple #[.agg #[.int .i64 0, .int .i64 0, .int .i64 0], .agg #[.int .i64 0, .int .i64 0, .int .i64 0], .bool false]) (by simp [results, Tryd.results133, go_sem]) rfl (DirOut.no HD.out ?_)
    (repeat' first | exact Below.refl _ _ | apply bl_alloc | apply bl_drewN | apply bl_drew | refine bl_trans ?_ (by assumption) | refine bl_set ?_ (by first | omega | (simp <;> omega)) _)
  have H1 := Lib.hid h1; have H2 := Lib.hid h2; clear h1 h2
  by_cases p0 : p = 0
  · by_cases q0 : q = 0
    · have HD : Hid (dirB p q = false) := by show _ = _; unfold dirB; rw [p0, q0]; rfl
      subst p0 q0
      go_enter Tryd.func133, Tryd.ntmps133
      go_wp2_with (go_at_call 63; (first | (with_reducible refine (within_b H1.out _).mono ?_) | (with_reducible refine (within_b H2.out _).mono ?_)); rintro e w0 ⟨rfl, rfl⟩)
      refine bodyPost_ret (v := .tuple #[.agg #[.int .i64 0, .int .i64 0, .int .i64 0], .agg #[.int .i64 0, .int .i64 0, .int .i64 0], .bool false]) (by simp [results, Tryd.results133, go_sem]) rfl (DirOut.no HD.out ?_)
      (repeat' first | exact Below.refl _ _ | apply bl_alloc | apply bl_drewN | apply bl_drew | refine bl_trans ?_ (by assumption) | refine bl_set ?_ (by first | omega | (simp <;> omega)) _)
    · have HD : Hid (dirB p q = true) := by show _ = _; unfold dirB; rw [H1.out, H2.out]; simp [p0, q0]
      obtain ⟨⟨a1, a2⟩, ⟨b1, b2⟩, n1⟩ := dir_bd HD.out
      obtain ⟨s1, s2⟩ := sq_bd a1 a2
      obtain ⟨s3, s4⟩ := sq_bd b1 b2
      obtain ⟨s5, s6⟩ := pr_bd a1 a2 b1 b2
      have z1 : (p == 0) = true := by simp [p0]
      have z2 : (q == 0) = false := by simp [q0]
      clear p0 q0
      go_enter Tryd.func133, Tryd.ntmps133
      go_wp2_with (go_at_call 63; (first | (with_reducible refine (within_b H1.out _).mono ?_) | (with_reducible refine (within_b H2.out _).mono ?_)); rintro e w0 ⟨rfl, rfl⟩)
      refine (lowest_any (p * p - q * q) 0 (p * p + q * q) (by omega) (by omega) (by omega) (by omega) (by omega) (by omega) _).mono ?_
      rintro e w1 ho
      obtain ⟨rfl, hb⟩ := ho.fn
      have kc0 := fun o => hb.cell (p := ⟨w.heap.size, o, none⟩) (by show w.heap.size < _; first | omega | (simp <;> omega))
      have kc1 := fun o => hb.cell (p := ⟨w.heap.size + 1, o, none⟩) (by show w.heap.size + 1 < _; first | omega | (simp <;> omega))
      have kf0 := fun o => hb.frozen (p := ⟨w.heap.size, o, none⟩) (by show w.heap.size < _; first | omega | (simp <;> omega))
      have kf1 := fun o => hb.frozen (p := ⟨w.heap.size + 1, o, none⟩) (by show w.heap.size + 1 < _; first | omega | (simp <;> omega))
      have hz := hb.size
      simp at hz
      have HB := Lib.hid (show Below w.heap.size w w1 from by (repeat' first | exact Below.refl _ _ | apply bl_alloc | apply bl_drewN | apply bl_drew | refine bl_trans ?_ (by assumption) | refine bl_set ?_ (by first | omega | (simp <;> omega)) _))
      have HR0 := Lib.hid (show Room w1 w.heap.size 1 from Room.below ((Room.new' rfl rfl).alloc (by simp) _) hb (by simp))
      have HR1 := Lib.hid (show Room w1 (w.heap.size + 1) 1 from Room.below (Room.new' (by simp) rfl) hb (by simp))
      have kl0 : w.heap.size < w1.heap.size := by omega
      have kl1 : w.heap.size + 1 < w1.heap.size := by omega
      have kn0 : ¬ w.heap.size = w1.heap.size := by omega
      have kn1 : ¬ w.heap.size + 1 = w1.heap.size := by omega
      clear ho hb
      go_wp2_with fail
      refine (lowest_any (2 * p * q) 0 (p * p + q * q) (by omega) (by omega) (by omega) (by omega) (by omega) (by omega) _).mono ?_
      rintro e w2 ho
      obtain ⟨rfl, hb⟩ := ho.fn
      have kc0 := fun o => hb.cell (p := ⟨w.heap.size, o, none⟩) (by show w.heap.size < _; first | omega | (simp <;> omega))
      have kc1 := fun o => hb.cell (p := ⟨w.heap.size + 1, o, none⟩) (by show w.heap.size + 1 < _; first | omega | (simp <;> omega))
      have kc2 := fun o => hb.cell (p := ⟨w1.heap.size, o, none⟩) (by show w1.heap.size < _; first | omega | (simp <;> omega))
      have kf0 := fun o => hb.frozen (p := ⟨w.heap.size, o, none⟩) (by show w.heap.size < _; first | omega | (simp <;> omega))
      have kf1 := fun o => hb.frozen (p := ⟨w.heap.size + 1, o, none⟩) (by show w.heap.size + 1 < _; first | omega | (simp <;> omega))
      have hz := hb.size
      simp at hz
      have HB := Lib.hid (show Below w.heap.size w w2 from HB.out.trans ((show Below _ _ _ from (Below.refl _ _).alloc (by omega) _).trans (hb.mono (by first | omega | (simp <;> omega)))))
      have HR0 := Lib.hid ((HR0.out.alloc (by omega) _).below hb (by first | omega | (simp <;> omega)))
      have HR1 := Lib.hid ((HR1.out.alloc (by omega) _).below hb (by first | omega | (simp <;> omega)))
      have kl0 : w.heap.size < w2.heap.size := by omega
      have kl1 : w.heap.size + 1 < w2.heap.size := by omega
      have kl2 : w1.heap.size < w2.heap.size := by omega
      have kn0 : ¬ w.heap.size = w2.heap.size := by omega
      have kn1 : ¬ w.heap.size + 1 = w2.heap.size := by omega
      have kn2 : ¬ w1.heap.size = w2.heap.size := by omega
      clear ho hb
      go_wp2
      go_region_held3 (fun w' => w'.cell? ⟨w1.heap.size, 0, none⟩ = some (.int .i64 (low (p * p - q * q) 0 (p * p + q * q)).1.re) ∧ w'.cell? ⟨w1.heap.size, 1, none⟩ = some (.int .i64 (low (p * p - q * q) 0 (p * p + q * q)).1.im) ∧ w'.cell? ⟨w1.heap.size, 2, none⟩ = some (.int .i64 (low (p * p - q * q) 0 (p * p + q * q)).1.den) ∧ w'.cell? ⟨w2.heap.size, 0, none⟩ = some (.int .i64 (low (2 * p * q) 0 (p * p + q * q)).1.re) ∧ w'.cell? ⟨w2.heap.size, 1, none⟩ = some (.int .i64 (low (2 * p * q) 0 (p * p + q * q)).1.im) ∧ w'.cell? ⟨w2.heap.size, 2, none⟩ = some (.int .i64 (low (2 * p * q) 0 (p * p + q * q)).1.den)) (((try dsimp only); (refine ⟨?_, ?_, ?_, ?_, ?_, ?_⟩ <;> first | (simp [*, cell_new_at]; done) | (go_keep; done)))) (fail)
      go_wp2
      have HT := fun o => two_ranges (W := w2) [.int .i64 (low (p * p - q * q) 0 (p * p + q * q)).1.re, .int .i64 (low (p * p - q * q) 0 (p * p + q * q)).1.im, .int .i64 (low (p * p - q * q) 0 (p * p + q * q)).1.den] [.int .i64 (low (2 * p * q) 0 (p * p + q * q)).1.re, .int .i64 (low (2 * p * q) 0 (p * p + q * q)).1.im, .int .i64 (low (2 * p * q) 0 (p * p + q * q)).1.den] o HR0.out HR1.out (by omega) rfl rfl
      simp only [World.setCells, Nat.zero_add, Nat.reduceAdd] at HT
      refine bodyPost_ret (v := .tuple #[.agg #[.int .i64 (low (p * p - q * q) 0 (p * p + q * q)).1.re, .int .i64 (low (p * p - q * q) 0 (p * p + q * q)).1.im, .int .i64 (low (p * p - q * q) 0 (p * p + q * q)).1.den], .agg #[.int .i64 (low (2 * p * q) 0 (p * p + q * q)).1.re, .int .i64 (low (2 * p * q) 0 (p * p + q * q)).1.im, .int .i64 (low (2 * p * q) 0 (p * p + q * q)).1.den], .bool true]) ?_ rfl (DirOut.yes HD.out ?_)
      · refine Eq.trans (results_cells2 Tryd.results133 _ _ w.heap.size (w.heap.size + 1) _ _ _ ?_ ?_ (HT _).1 (HT _).2 Tryd.underlying23 rfl ?_ ?_) ?_
        · rfl
        · rfl
        · kernel_rfl
        · kernel_rfl
        · rfl
      · (repeat' first | (with_reducible exact HB.out) | with_reducible refine setCells_below _ _ _ ?_ (by first | omega | (simp <;> omega)) | with_reducible refine Below.setCell ?_ (by show _ ≤ _; first | omega | (simp <;> omega) | simp) _ | with_reducible refine Below.alloc ?_ (by first | omega | (simp <;> omega)) _ | with_reducible apply Below.drew)
  · have HD : Hid (dirB p q = true) := by show _ = _; unfold dirB; rw [H1.out, H2.out]; simp [p0]
    obtain ⟨⟨a1, a2⟩, ⟨b1, b2⟩, n1⟩ := dir_bd HD.out
    obtain ⟨s1, s2⟩ := sq_bd a1 a2
    obtain ⟨s3, s4⟩ := sq_bd b1 b2
    obtain ⟨s5, s6⟩ := pr_bd a1 a2 b1 b2
    have z1 : (p == 0) = false := by simp [p0]
    clear p0
    go_enter Tryd.func133, Tryd.ntmps133
    go_wp2_with (go_at_call 63; (first | (with_reducible refine (within_b H1.out _).mono ?_) | (with_reducible refine (within_b H2.out _).mono ?_)); rintro e w0 ⟨rfl, rfl⟩)
    refine (lowest_any (p * p - q * q) 0 (p * p + q * q) (by omega) (by omega) (by omega) (by omega) (by omega) (by omega) _).mono ?_
    rintro e w1 ho
    obtain ⟨rfl, hb⟩ := ho.fn
    have kc0 := fun o => hb.cell (p := ⟨w.heap.size, o, none⟩) (by show w.heap.size < _; first | omega | (simp <;> omega))
    have kc1 := fun o => hb.cell (p := ⟨w.heap.size + 1, o, none⟩) (by show w.heap.size + 1 < _; first | omega | (simp <;> omega))
    have kf0 := fun o => hb.frozen (p := ⟨w.heap.size, o, none⟩) (by show w.heap.size < _; first | omega | (simp <;> omega))
    have kf1 := fun o => hb.frozen (p := ⟨w.heap.size + 1, o, none⟩) (by show w.heap.size + 1 < _; first | omega | (simp <;> omega))
    have hz := hb.size
    simp at hz
    have HB := Lib.hid (show Below w.heap.size w w1 from by (repeat' first | exact Below.refl _ _ | apply bl_alloc | apply bl_drewN | apply bl_drew | refine bl_trans ?_ (by assumption) | refine bl_set ?_ (by first | omega | (simp <;> omega)) _))
    have HR0 := Lib.hid (show Room w1 w.heap.size 1 from Room.below ((Room.new' rfl rfl).alloc (by simp) _) hb (by simp))
    have HR1 := Lib.hid (show Room w1 (w.heap.size + 1) 1 from Room.below (Room.new' (by simp) rfl) hb (by simp))
    have kl0 : w.heap.size < w1.heap.size := by omega
    have kl1 : w.heap.size + 1 < w1.heap.size := by omega
    have kn0 : ¬ w.heap.size = w1.heap.size := by omega
    have kn1 : ¬ w.heap.size + 1 = w1.heap.size := by omega
    clear ho hb
    go_wp2_with fail
    refine (lowest_any (2 * p * q) 0 (p * p + q * q) (by omega) (by omega) (by omega) (by omega) (by omega) (by omega) _).mono ?_
    rintro e w2 ho
    obtain ⟨rfl, hb⟩ := ho.fn
    have kc0 := fun o => hb.cell (p := ⟨w.heap.size, o, none⟩) (by show w.heap.size < _; first | omega | (simp <;> omega))
    have kc1 := fun o => hb.cell (p := ⟨w.heap.size + 1, o, none⟩) (by show w.heap.size + 1 < _; first | omega | (simp <;> omega))
    have kc2 := fun o => hb.cell (p := ⟨w1.heap.size, o, none⟩) (by show w1.heap.size < _; first | omega | (simp <;> omega))
    have kf0 := fun o => hb.frozen (p := ⟨w.heap.size, o, none⟩) (by show w.heap.size < _; first | omega | (simp <;> omega))
    have kf1 := fun o => hb.frozen (p := ⟨w.heap.size + 1, o, none⟩) (by show w.heap.size + 1 < _; first | omega | (simp <;> omega))
    have hz := hb.size
    simp at hz
    have HB := Lib.hid (show Below w.heap.size w w2 from HB.out.trans ((show Below _ _ _ from (Below.refl _ _).alloc (by omega) _).trans (hb.mono (by first | omega | (simp <;> omega)))))
    have HR0 := Lib.hid ((HR0.out.alloc (by omega) _).below hb (by first | omega | (simp <;> omega)))
    have HR1 := Lib.hid ((HR1.out.alloc (by omega) _).below hb (by first | omega | (simp <;> omega)))
    have kl0 : w.heap.size < w2.heap.size := by omega
    have kl1 : w.heap.size + 1 < w2.heap.size := by omega
    have kl2 : w1.heap.size < w2.heap.size := by omega
    have kn0 : ¬ w.heap.size = w2.heap.size := by omega
    have kn1 : ¬ w.heap.size + 1 = w2.heap.size := by omega
    have kn2 : ¬ w1.heap.size = w2.heap.size := by omega
    clear ho hb
    go_wp2
    go_region_held3 (fun w' => w'.cell? ⟨w1.heap.size, 0, none⟩ = some (.int .i64 (low (p * p - q * q) 0 (p * p + q * q)).1.re) ∧ w'.cell? ⟨w1.heap.size, 1, none⟩ = some (.int .i64 (low (p * p - q * q) 0 (p * p + q * q)).1.im) ∧ w'.cell? ⟨w1.heap.size, 2, none⟩ = some (.int .i64 (low (p * p - q * q) 0 (p * p + q * q)).1.den) ∧ w'.cell? ⟨w2.heap.size, 0, none⟩ = some (.int .i64 (low (2 * p * q) 0 (p * p + q * q)).1.re) ∧ w'.cell? ⟨w2.heap.size, 1, none⟩ = some (.int .i64 (low (2 * p * q) 0 (p * p + q * q)).1.im) ∧ w'.cell? ⟨w2.heap.size, 2, none⟩ = some (.int .i64 (low (2 * p * q) 0 (p * p + q * q)).1.den)) (((try dsimp only); (refine ⟨?_, ?_, ?_, ?_, ?_, ?_⟩ <;> first | (simp [*, cell_new_at]; done) | (go_keep; done)))) (fail)
    go_wp2
    have HT := fun o => two_ranges (W := w2) [.int .i64 (low (p * p - q * q) 0 (p * p + q * q)).1.re, .int .i64 (low (p * p - q * q) 0 (p * p + q * q)).1.im, .int .i64 (low (p * p - q * q) 0 (p * p + q * q)).1.den] [.int .i64 (low (2 * p * q) 0 (p * p + q * q)).1.re, .int .i64 (low (2 * p * q) 0 (p * p + q * q)).1.im, .int .i64 (low (2 * p * q) 0 (p * p + q * q)).1.den] o HR0.out HR1.out (by omega) rfl rfl
    simp only [World.setCells, Nat.zero_add, Nat.reduceAdd] at HT
    refine bodyPost_ret (v := .tuple #[.agg #[.int .i64 (low (p * p - q * q) 0 (p * p + q * q)).1.re, .int .i64 (low (p * p - q * q) 0 (p * p + q * q)).1.im, .int .i64 (low (p * p - q * q) 0 (p * p + q * q)).1.den], .agg #[.int .i64 (low (2 * p * q) 0 (p * p + q * q)).1.re, .int .i64 (low (2 * p * q) 0 (p * p + q * q)).1.im, .int .i64 (low (2 * p * q) 0 (p * p + q * q)).1.den], .bool true]) ?_ rfl (DirOut.yes HD.out ?_)
    · refine Eq.trans (results_cells2 Tryd.results133 _ _ w.heap.size (w.heap.size + 1) _ _ _ ?_ ?_ (HT _).1 (HT _).2 Tryd.underlying23 rfl ?_ ?_) ?_
      · rfl
      · rfl
      · kernel_rfl
      · kernel_rfl
      · rfl
    · (repeat' first | (with_reducible exact HB.out) | with_reducible refine setCells_below _ _ _ ?_ (by first | omega | (simp <;> omega)) | with_reducible refine Below.setCell ?_ (by show _ ≤ _; first | omega | (simp <;> omega) | simp) _ | with_reducible refine Below.alloc ?_ (by first | omega | (simp <;> omega)) _ | with_reducible apply Below.drew)
set_option maxRecDepth 100000 in
set_option maxHeartbeats 4000000 in
theorem sdir_any (p q : Int) (w : World) :
    Calls Tryd.prog 135 #[.int .i64 p, .int .i64 q] w (DirOut p q w) := by
  cases h1 : wi p (-100) 100
  · have HD : Hid (dirB p q = false) := by show _ = _; unfold dirB; rw [h1]; rfl
    have H1 := Lib.hid h1; clear h1
    have H2 : Hid True := trivial
    go_enter Tryd.func135, Tryd.ntmps135
    go_wp2_with (go_at_call 61; (first | (with_reducible refine (l6In_b H1.out _).mono ?_) | (with_reducible refine (l6In_b H2.out _).mono ?_)); rintro e w0 ⟨rfl, rfl⟩)
    refine bodyPost_ret (v := .tuple #[.agg #[.int .i64 0, .int .i64 0, .int .i64 0], .agg #[.int .i64 0, .int .i64 0, .int .i64 0], .bool false]) (by simp [results, Tryd.results135, go_sem]) rfl (DirOut.no HD.out ?_)
    (repeat' first | exact Below.refl _ _ | apply bl_alloc | apply bl_drewN | apply bl_drew | refine bl_trans ?_ (by assumption) | refine bl_set ?_ (by first | omega | (simp <;> omega)) _)
  cases h2 : wi q (-100) 100
  · have HD : Hid (dirB p q = false) := by show _ = _; unfold dirB; rw [h1, h2]; rfl
    have H1 := Lib.hid h1; have H2 := Lib.hid h2; clear h1 h2
    go_enter Tryd.func135, Tryd.ntmps135
    go_wp2_with (go_at_call 61; (first | (with_reducible refine (l6In_b H1.out _).mono ?_) | (with_reducible refine (l6In_b H2.out _).mono ?_)); rintro e w0 ⟨rfl, rfl⟩)
    refine bodyPost_ret (v := .tuple #[.agg #[.int .i64 0, .int .i64 0, .int .i64 0], .agg #[.int .i64 0, .int .i64 0, .int .i64 0], .bool false]) (by simp [results, Tryd.results135, go_sem]) rfl (DirOut.no HD.out ?_)
    (repeat' first | exact Below.refl _ _ | apply bl_alloc | apply bl_drewN | apply bl_drew | refine bl_trans ?_ (by assumption) | refine bl_set ?_ (by first | omega | (simp <;> omega)) _)
  have H1 := Lib.hid h1; have H2 := Lib.hid h2; clear h1 h2
  by_cases p0 : p = 0
  · by_cases q0 : q = 0
    · have HD : Hid (dirB p q = false) := by show _ = _; unfold dirB; rw [p0, q0]; rfl
      subst p0 q0
      go_enter Tryd.func135, Tryd.ntmps135
      go_wp2_with (go_at_call 61; (first | (with_reducible refine (l6In_b H1.out _).mono ?_) | (with_reducible refine (l6In_b H2.out _).mono ?_)); rintro e w0 ⟨rfl, rfl⟩)
      refine bodyPost_ret (v := .tuple #[.agg #[.int .i64 0, .int .i64 0, .int .i64 0], .agg #[.int .i64 0, .int .i64 0, .int .i64 0], .bool false]) (by simp [results, Tryd.results135, go_sem]) rfl (DirOut.no HD.out ?_)
      (repeat' first | exact Below.refl _ _ | apply bl_alloc | apply bl_drewN | apply bl_drew | refine bl_trans ?_ (by assumption) | refine bl_set ?_ (by first | omega | (simp <;> omega)) _)
    · have HD : Hid (dirB p q = true) := by show _ = _; unfold dirB; rw [H1.out, H2.out]; simp [p0, q0]
      obtain ⟨⟨a1, a2⟩, ⟨b1, b2⟩, n1⟩ := dir_bd HD.out
      obtain ⟨s1, s2⟩ := sq_bd a1 a2
      obtain ⟨s3, s4⟩ := sq_bd b1 b2
      obtain ⟨s5, s6⟩ := pr_bd a1 a2 b1 b2
      have z1 : (p == 0) = true := by simp [p0]
      have z2 : (q == 0) = false := by simp [q0]
      clear p0 q0
      go_enter Tryd.func135, Tryd.ntmps135
      go_wp2_with (go_at_call 61; (first | (with_reducible refine (l6In_b H1.out _).mono ?_) | (with_reducible refine (l6In_b H2.out _).mono ?_)); rintro e w0 ⟨rfl, rfl⟩)
      refine (fracMake_any (p * p - q * q) 0 (p * p + q * q) (by omega) (by omega) (by omega) (by omega) (by omega) (by omega) _).mono ?_
      rintro e w1 ho
      obtain ⟨rfl, hb⟩ := ho.fn
      have kc0 := fun o => hb.cell (p := ⟨w.heap.size, o, none⟩) (by show w.heap.size < _; first | omega | (simp <;> omega))
      have kc1 := fun o => hb.cell (p := ⟨w.heap.size + 1, o, none⟩) (by show w.heap.size + 1 < _; first | omega | (simp <;> omega))
      have kf0 := fun o => hb.frozen (p := ⟨w.heap.size, o, none⟩) (by show w.heap.size < _; first | omega | (simp <;> omega))
      have kf1 := fun o => hb.frozen (p := ⟨w.heap.size + 1, o, none⟩) (by show w.heap.size + 1 < _; first | omega | (simp <;> omega))
      have hz := hb.size
      simp at hz
      have HB := Lib.hid (show Below w.heap.size w w1 from by (repeat' first | exact Below.refl _ _ | apply bl_alloc | apply bl_drewN | apply bl_drew | refine bl_trans ?_ (by assumption) | refine bl_set ?_ (by first | omega | (simp <;> omega)) _))
      have HR0 := Lib.hid (show Room w1 w.heap.size 1 from Room.below ((Room.new' rfl rfl).alloc (by simp) _) hb (by simp))
      have HR1 := Lib.hid (show Room w1 (w.heap.size + 1) 1 from Room.below (Room.new' (by simp) rfl) hb (by simp))
      have kl0 : w.heap.size < w1.heap.size := by omega
      have kl1 : w.heap.size + 1 < w1.heap.size := by omega
      have kn0 : ¬ w.heap.size = w1.heap.size := by omega
      have kn1 : ¬ w.heap.size + 1 = w1.heap.size := by omega
      clear ho hb
      go_wp2_with fail
      refine (fracMake_any (2 * p * q) 0 (p * p + q * q) (by omega) (by omega) (by omega) (by omega) (by omega) (by omega) _).mono ?_
      rintro e w2 ho
      obtain ⟨rfl, hb⟩ := ho.fn
      have kc0 := fun o => hb.cell (p := ⟨w.heap.size, o, none⟩) (by show w.heap.size < _; first | omega | (simp <;> omega))
      have kc1 := fun o => hb.cell (p := ⟨w.heap.size + 1, o, none⟩) (by show w.heap.size + 1 < _; first | omega | (simp <;> omega))
      have kc2 := fun o => hb.cell (p := ⟨w1.heap.size, o, none⟩) (by show w1.heap.size < _; first | omega | (simp <;> omega))
      have kf0 := fun o => hb.frozen (p := ⟨w.heap.size, o, none⟩) (by show w.heap.size < _; first | omega | (simp <;> omega))
      have kf1 := fun o => hb.frozen (p := ⟨w.heap.size + 1, o, none⟩) (by show w.heap.size + 1 < _; first | omega | (simp <;> omega))
      have hz := hb.size
      simp at hz
      have HB := Lib.hid (show Below w.heap.size w w2 from HB.out.trans ((show Below _ _ _ from (Below.refl _ _).alloc (by omega) _).trans (hb.mono (by first | omega | (simp <;> omega)))))
      have HR0 := Lib.hid ((HR0.out.alloc (by omega) _).below hb (by first | omega | (simp <;> omega)))
      have HR1 := Lib.hid ((HR1.out.alloc (by omega) _).below hb (by first | omega | (simp <;> omega)))
      have kl0 : w.heap.size < w2.heap.size := by omega
      have kl1 : w.heap.size + 1 < w2.heap.size := by omega
      have kl2 : w1.heap.size < w2.heap.size := by omega
      have kn0 : ¬ w.heap.size = w2.heap.size := by omega
      have kn1 : ¬ w.heap.size + 1 = w2.heap.size := by omega
      have kn2 : ¬ w1.heap.size = w2.heap.size := by omega
      clear ho hb
      go_wp2
      go_region_held3 (fun w' => w'.cell? ⟨w1.heap.size, 0, none⟩ = some (.int .i64 (low (p * p - q * q) 0 (p * p + q * q)).1.re) ∧ w'.cell? ⟨w1.heap.size, 1, none⟩ = some (.int .i64 (low (p * p - q * q) 0 (p * p + q * q)).1.im) ∧ w'.cell? ⟨w1.heap.size, 2, none⟩ = some (.int .i64 (low (p * p - q * q) 0 (p * p + q * q)).1.den) ∧ w'.cell? ⟨w2.heap.size, 0, none⟩ = some (.int .i64 (low (2 * p * q) 0 (p * p + q * q)).1.re) ∧ w'.cell? ⟨w2.heap.size, 1, none⟩ = some (.int .i64 (low (2 * p * q) 0 (p * p + q * q)).1.im) ∧ w'.cell? ⟨w2.heap.size, 2, none⟩ = some (.int .i64 (low (2 * p * q) 0 (p * p + q * q)).1.den)) (((try dsimp only); (refine ⟨?_, ?_, ?_, ?_, ?_, ?_⟩ <;> first | (simp [*, cell_new_at]; done) | (go_keep; done)))) (fail)
      go_wp2
      have HT := fun o => two_ranges (W := w2) [.int .i64 (low (p * p - q * q) 0 (p * p + q * q)).1.re, .int .i64 (low (p * p - q * q) 0 (p * p + q * q)).1.im, .int .i64 (low (p * p - q * q) 0 (p * p + q * q)).1.den] [.int .i64 (low (2 * p * q) 0 (p * p + q * q)).1.re, .int .i64 (low (2 * p * q) 0 (p * p + q * q)).1.im, .int .i64 (low (2 * p * q) 0 (p * p + q * q)).1.den] o HR0.out HR1.out (by omega) rfl rfl
      simp only [World.setCells, Nat.zero_add, Nat.reduceAdd] at HT
      refine bodyPost_ret (v := .tuple #[.agg #[.int .i64 (low (p * p - q * q) 0 (p * p + q * q)).1.re, .int .i64 (low (p * p - q * q) 0 (p * p + q * q)).1.im, .int .i64 (low (p * p - q * q) 0 (p * p + q * q)).1.den], .agg #[.int .i64 (low (2 * p * q) 0 (p * p + q * q)).1.re, .int .i64 (low (2 * p * q) 0 (p * p + q * q)).1.im, .int .i64 (low (2 * p * q) 0 (p * p + q * q)).1.den], .bool true]) ?_ rfl (DirOut.yes HD.out ?_)
      · refine Eq.trans (results_cells2 Tryd.results135 _ _ w.heap.size (w.heap.size + 1) _ _ _ ?_ ?_ (HT _).1 (HT _).2 Tryd.underlying23 rfl ?_ ?_) ?_
        · rfl
        · rfl
        · kernel_rfl
        · kernel_rfl
        · rfl
      · (repeat' first | (with_reducible exact HB.out) | with_reducible refine setCells_below _ _ _ ?_ (by first | omega | (simp <;> omega)) | with_reducible refine Below.setCell ?_ (by show _ ≤ _; first | omega | (simp <;> omega) | simp) _ | with_reducible refine Below.alloc ?_ (by first | omega | (simp <;> omega)) _ | with_reducible apply Below.drew)
  · have HD : Hid (dirB p q = true) := by show _ = _; unfold dirB; rw [H1.out, H2.out]; simp [p0]
    obtain ⟨⟨a1, a2⟩, ⟨b1, b2⟩, n1⟩ := dir_bd HD.out
    obtain ⟨s1, s2⟩ := sq_bd a1 a2
    obtain ⟨s3, s4⟩ := sq_bd b1 b2
    obtain ⟨s5, s6⟩ := pr_bd a1 a2 b1 b2
    have z1 : (p == 0) = false := by simp [p0]
    clear p0
    go_enter Tryd.func135, Tryd.ntmps135
    go_wp2_with (go_at_call 61; (first | (with_reducible refine (l6In_b H1.out _).mono ?_) | (with_reducible refine (l6In_b H2.out _).mono ?_)); rintro e w0 ⟨rfl, rfl⟩)
    refine (fracMake_any (p * p - q * q) 0 (p * p + q * q) (by omega) (by omega) (by omega) (by omega) (by omega) (by omega) _).mono ?_
    rintro e w1 ho
    obtain ⟨rfl, hb⟩ := ho.fn
    have kc0 := fun o => hb.cell (p := ⟨w.heap.size, o, none⟩) (by show w.heap.size < _; first | omega | (simp <;> omega))
    have kc1 := fun o => hb.cell (p := ⟨w.heap.size + 1, o, none⟩) (by show w.heap.size + 1 < _; first | omega | (simp <;> omega))
    have kf0 := fun o => hb.frozen (p := ⟨w.heap.size, o, none⟩) (by show w.heap.size < _; first | omega | (simp <;> omega))
    have kf1 := fun o => hb.frozen (p := ⟨w.heap.size + 1, o, none⟩) (by show w.heap.size + 1 < _; first | omega | (simp <;> omega))
    have hz := hb.size
    simp at hz
    have HB := Lib.hid (show Below w.heap.size w w1 from by (repeat' first | exact Below.refl _ _ | apply bl_alloc | apply bl_drewN | apply bl_drew | refine bl_trans ?_ (by assumption) | refine bl_set ?_ (by first | omega | (simp <;> omega)) _))
    have HR0 := Lib.hid (show Room w1 w.heap.size 1 from Room.below ((Room.new' rfl rfl).alloc (by simp) _) hb (by simp))
    have HR1 := Lib.hid (show Room w1 (w.heap.size + 1) 1 from Room.below (Room.new' (by simp) rfl) hb (by simp))
    have kl0 : w.heap.size < w1.heap.size := by omega
    have kl1 : w.heap.size + 1 < w1.heap.size := by omega
    have kn0 : ¬ w.heap.size = w1.heap.size := by omega
    have kn1 : ¬ w.heap.size + 1 = w1.heap.size := by omega
    clear ho hb
    go_wp2_with fail
    refine (fracMake_any (2 * p * q) 0 (p * p + q * q) (by omega) (by omega) (by omega) (by omega) (by omega) (by omega) _).mono ?_
    rintro e w2 ho
    obtain ⟨rfl, hb⟩ := ho.fn
    have kc0 := fun o => hb.cell (p := ⟨w.heap.size, o, none⟩) (by show w.heap.size < _; first | omega | (simp <;> omega))
    have kc1 := fun o => hb.cell (p := ⟨w.heap.size + 1, o, none⟩) (by show w.heap.size + 1 < _; first | omega | (simp <;> omega))
    have kc2 := fun o => hb.cell (p := ⟨w1.heap.size, o, none⟩) (by show w1.heap.size < _; first | omega | (simp <;> omega))
    have kf0 := fun o => hb.frozen (p := ⟨w.heap.size, o, none⟩) (by show w.heap.size < _; first | omega | (simp <;> omega))
    have kf1 := fun o => hb.frozen (p := ⟨w.heap.size + 1, o, none⟩) (by show w.heap.size + 1 < _; first | omega | (simp <;> omega))
    have hz := hb.size
    simp at hz
    have HB := Lib.hid (show Below w.heap.size w w2 from HB.out.trans ((show Below _ _ _ from (Below.refl _ _).alloc (by omega) _).trans (hb.mono (by first | omega | (simp <;> omega)))))
    have HR0 := Lib.hid ((HR0.out.alloc (by omega) _).below hb (by first | omega | (simp <;> omega)))
    have HR1 := Lib.hid ((HR1.out.alloc (by omega) _).below hb (by first | omega | (simp <;> omega)))
    have kl0 : w.heap.size < w2.heap.size := by omega
    have kl1 : w.heap.size + 1 < w2.heap.size := by omega
    have kl2 : w1.heap.size < w2.heap.size := by omega
    have kn0 : ¬ w.heap.size = w2.heap.size := by omega
    have kn1 : ¬ w.heap.size + 1 = w2.heap.size := by omega
    have kn2 : ¬ w1.heap.size = w2.heap.size := by omega
    clear ho hb
    go_wp2
    go_region_held3 (fun w' => w'.cell? ⟨w1.heap.size, 0, none⟩ = some (.int .i64 (low (p * p - q * q) 0 (p * p + q * q)).1.re) ∧ w'.cell? ⟨w1.heap.size, 1, none⟩ = some (.int .i64 (low (p * p - q * q) 0 (p * p + q * q)).1.im) ∧ w'.cell? ⟨w1.heap.size, 2, none⟩ = some (.int .i64 (low (p * p - q * q) 0 (p * p + q * q)).1.den) ∧ w'.cell? ⟨w2.heap.size, 0, none⟩ = some (.int .i64 (low (2 * p * q) 0 (p * p + q * q)).1.re) ∧ w'.cell? ⟨w2.heap.size, 1, none⟩ = some (.int .i64 (low (2 * p * q) 0 (p * p + q * q)).1.im) ∧ w'.cell? ⟨w2.heap.size, 2, none⟩ = some (.int .i64 (low (2 * p * q) 0 (p * p + q * q)).1.den)) (((try dsimp only); (refine ⟨?_, ?_, ?_, ?_, ?_, ?_⟩ <;> first | (simp [*, cell_new_at]; done) | (go_keep; done)))) (fail)
    go_wp2
    have HT := fun o => two_ranges (W := w2) [.int .i64 (low (p * p - q * q) 0 (p * p + q * q)).1.re, .int .i64 (low (p * p - q * q) 0 (p * p + q * q)).1.im, .int .i64 (low (p * p - q * q) 0 (p * p + q * q)).1.den] [.int .i64 (low (2 * p * q) 0 (p * p + q * q)).1.re, .int .i64 (low (2 * p * q) 0 (p * p + q * q)).1.im, .int .i64 (low (2 * p * q) 0 (p * p + q * q)).1.den] o HR0.out HR1.out (by omega) rfl rfl
    simp only [World.setCells, Nat.zero_add, Nat.reduceAdd] at HT
    refine bodyPost_ret (v := .tuple #[.agg #[.int .i64 (low (p * p - q * q) 0 (p * p + q * q)).1.re, .int .i64 (low (p * p - q * q) 0 (p * p + q * q)).1.im, .int .i64 (low (p * p - q * q) 0 (p * p + q * q)).1.den], .agg #[.int .i64 (low (2 * p * q) 0 (p * p + q * q)).1.re, .int .i64 (low (2 * p * q) 0 (p * p + q * q)).1.im, .int .i64 (low (2 * p * q) 0 (p * p + q * q)).1.den], .bool true]) ?_ rfl (DirOut.yes HD.out ?_)
    · refine Eq.trans (results_cells2 Tryd.results135 _ _ w.heap.size (w.heap.size + 1) _ _ _ ?_ ?_ (HT _).1 (HT _).2 Tryd.underlying23 rfl ?_ ?_) ?_
      · rfl
      · rfl
      · kernel_rfl
      · kernel_rfl
      · rfl
    · (repeat' first | (with_reducible exact HB.out) | with_reducible refine setCells_below _ _ _ ?_ (by first | omega | (simp <;> omega)) | with_reducible refine Below.setCell ?_ (by show _ ≤ _; first | omega | (simp <;> omega) | simp) _ | with_reducible refine Below.alloc ?_ (by first | omega | (simp <;> omega)) _ | with_reducible apply Below.drew)
end Go.Proofs.YtmcokdiopcpifaaDoor
