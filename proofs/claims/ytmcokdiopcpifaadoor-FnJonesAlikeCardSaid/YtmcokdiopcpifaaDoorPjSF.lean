/- Contracts: the four numbers of a vector, the reference's side; parts of fractions, the program's side. -/
import Derived.Test.YtmcokdiopcpifaaDoorPjG8
import Derived.Test.YtmcokdiopcpifaaDoorPjJ
import Derived.Test.YtmcokdiopcpifaaDoorPjG10
set_option maxRecDepth 100000
namespace Go.Proofs.YtmcokdiopcpifaaDoor
open Go.RowKit Pol
set_option maxHeartbeats 2000000 in
theorem sreal_any (b : Nat) (v : Bool) (p : Fr) (w : World) (hb0 : b < w.heap.size) (hc0 : w.cell? ⟨b, 0, none⟩ = some (.bool v)) (hf0 : w.frozen? ⟨b, 0, none⟩ = false) :
    Calls Tryd.prog 96 #[.pointer (some ⟨b, 0, none⟩), .agg #[.int .i64 p.re, .int .i64 p.im, .int .i64 p.den]] w (SmOut b v (fReal p) w) := by
  cases hv : vld p
  · have HG : Hid (fReal p = (fz, false)) := by show _ = _; unfold fReal; rw [hv]; rfl
    have hne : ¬ b = w.heap.size := by omega
    have hne1 : ¬ b = w.heap.size + 1 := by omega
    go_enter Tryd.func96, Tryd.ntmps96
    go_wp2_with (go_at_call 86; (with_reducible refine (valid_fb hv _).mono ?_); rintro e w1 ⟨rfl, hb⟩; obtain ⟨hc, hf, hz⟩ := bcellk (B := w.heap.size + 1 + 1) hb (by first | omega | (simp <;> omega)); have hs1 : Sm b v w w1 := Sm.of_below (by (repeat' first | exact Below.refl _ _ | apply bl_alloc | apply bl_drewN | apply bl_drew | refine bl_trans ?_ (by assumption) | refine bl_set ?_ (by first | omega | (simp <;> omega)) _)) hb0 hc0 hf0; have hsc := hs1.cell; have hsf := hs1.free; clear hb)
    refine bodyPost_ret (v := .agg #[.int .i64 0, .int .i64 0, .int .i64 0]) (by simp [results, Tryd.results96, go_sem, *]) rfl (SmOut.mk (u := true) HG (by show _ = _; simp) rfl ?_)
    repeat' first | exact hs1.set true | refine Sm.setOwn ?_ (by first | omega | (simp <;> omega)) (by assumption) _ | apply Sm.alloc | assumption
  · have HG : Hid (fReal p = low p.re 0 p.den) := by show _ = _; unfold fReal; rw [hv]; rfl
    obtain ⟨v1, v2, v3, -⟩ := (vld_iff p).1 hv
    go_enter Tryd.func96, Tryd.ntmps96
    go_wp2_with (first | (go_at_call 86; (with_reducible refine (valid_fb hv _).mono ?_); rintro e w1 ⟨rfl, hb⟩; obtain ⟨hc, hf, hz⟩ := bcellk (B := w.heap.size + 1 + 1) hb (by first | omega | (simp <;> omega)); have hs1 : Sm b v w w1 := Sm.of_below (by (repeat' first | exact Below.refl _ _ | apply bl_alloc | apply bl_drewN | apply bl_drew | refine bl_trans ?_ (by assumption) | refine bl_set ?_ (by first | omega | (simp <;> omega)) _)) hb0 hc0 hf0; clear hb) | (go_at_call 87; (with_reducible refine (lowest_any _ _ _ (by omega) (by omega) (by omega) (by omega) (by omega) (by omega) _).mono ?_); rintro e w2 ⟨r, ok, H, rfl, hb⟩; have hs2 : Sm b v w w2 := hs1.below hb hb0; obtain ⟨hc, hf, hz⟩ := bcellk (B := w.heap.size + 1 + 1) hb (by first | omega | (simp <;> omega)); clear hb))
    refine (keep_any b v _ _ (by have := low_no p.re 0 p.den; rw [H.out] at this; exact this) _ (by omega) hs2.cell hs2.free).mono ?_
    rintro e w3 ⟨r', ok', u, H', hu, rfl, hs⟩
    obtain ⟨hc', hf', hz3, hsc, hsf⟩ := hs.keepOwn (N := w.heap.size) (B := w.heap.size + 1 + 1) (by assumption) (by first | omega | (simp <;> omega))
    have hr := fun o => hc' (w.heap.size + 1) o (by omega) (by omega)
    have hrf := fun o => hf' (w.heap.size + 1) o (by omega) (by omega)
    clear hc' hf'
    obtain ⟨rfl, rfl⟩ : r = r' ∧ ok = ok' := by have := H'.out; injection this with h1 h2; exact ⟨h1, h2⟩
    clear H'
    have hs3 := hs2.trans hs
    clear hs hs1
    go_wp2
    refine bodyPost_ret (v := .agg #[.int .i64 r.re, .int .i64 r.im, .int .i64 r.den]) (by simp [results, Tryd.results96, go_sem, *]) rfl (SmOut.mk (Lib.hid (HG.out.trans H.out)) hu rfl ?_)
    (repeat' first | assumption | exact Below.refl _ _ | exact Nat.le_refl _ | apply Sm.drewN | apply Sm.alloc | refine Sm.setOwn ?_ (by first | omega | (simp <;> omega)) (by assumption) _ )
set_option maxHeartbeats 2000000 in
theorem simag_any (b : Nat) (v : Bool) (p : Fr) (w : World) (hb0 : b < w.heap.size) (hc0 : w.cell? ⟨b, 0, none⟩ = some (.bool v)) (hf0 : w.frozen? ⟨b, 0, none⟩ = false) :
    Calls Tryd.prog 97 #[.pointer (some ⟨b, 0, none⟩), .agg #[.int .i64 p.re, .int .i64 p.im, .int .i64 p.den]] w (SmOut b v (fImag p) w) := by
  cases hv : vld p
  · have HG : Hid (fImag p = (fz, false)) := by show _ = _; unfold fImag; rw [hv]; rfl
    have hne : ¬ b = w.heap.size := by omega
    have hne1 : ¬ b = w.heap.size + 1 := by omega
    go_enter Tryd.func97, Tryd.ntmps97
    go_wp2_with (go_at_call 86; (with_reducible refine (valid_fb hv _).mono ?_); rintro e w1 ⟨rfl, hb⟩; obtain ⟨hc, hf, hz⟩ := bcellk (B := w.heap.size + 1 + 1) hb (by first | omega | (simp <;> omega)); have hs1 : Sm b v w w1 := Sm.of_below (by (repeat' first | exact Below.refl _ _ | apply bl_alloc | apply bl_drewN | apply bl_drew | refine bl_trans ?_ (by assumption) | refine bl_set ?_ (by first | omega | (simp <;> omega)) _)) hb0 hc0 hf0; have hsc := hs1.cell; have hsf := hs1.free; clear hb)
    refine bodyPost_ret (v := .agg #[.int .i64 0, .int .i64 0, .int .i64 0]) (by simp [results, Tryd.results97, go_sem, *]) rfl (SmOut.mk (u := true) HG (by show _ = _; simp) rfl ?_)
    repeat' first | exact hs1.set true | refine Sm.setOwn ?_ (by first | omega | (simp <;> omega)) (by assumption) _ | apply Sm.alloc | assumption
  · have HG : Hid (fImag p = low p.im 0 p.den) := by show _ = _; unfold fImag; rw [hv]; rfl
    obtain ⟨v1, v2, v3, -⟩ := (vld_iff p).1 hv
    go_enter Tryd.func97, Tryd.ntmps97
    go_wp2_with (first | (go_at_call 86; (with_reducible refine (valid_fb hv _).mono ?_); rintro e w1 ⟨rfl, hb⟩; obtain ⟨hc, hf, hz⟩ := bcellk (B := w.heap.size + 1 + 1) hb (by first | omega | (simp <;> omega)); have hs1 : Sm b v w w1 := Sm.of_below (by (repeat' first | exact Below.refl _ _ | apply bl_alloc | apply bl_drewN | apply bl_drew | refine bl_trans ?_ (by assumption) | refine bl_set ?_ (by first | omega | (simp <;> omega)) _)) hb0 hc0 hf0; clear hb) | (go_at_call 87; (with_reducible refine (lowest_any _ _ _ (by omega) (by omega) (by omega) (by omega) (by omega) (by omega) _).mono ?_); rintro e w2 ⟨r, ok, H, rfl, hb⟩; have hs2 : Sm b v w w2 := hs1.below hb hb0; obtain ⟨hc, hf, hz⟩ := bcellk (B := w.heap.size + 1 + 1) hb (by first | omega | (simp <;> omega)); clear hb))
    refine (keep_any b v _ _ (by have := low_no p.im 0 p.den; rw [H.out] at this; exact this) _ (by omega) hs2.cell hs2.free).mono ?_
    rintro e w3 ⟨r', ok', u, H', hu, rfl, hs⟩
    obtain ⟨hc', hf', hz3, hsc, hsf⟩ := hs.keepOwn (N := w.heap.size) (B := w.heap.size + 1 + 1) (by assumption) (by first | omega | (simp <;> omega))
    have hr := fun o => hc' (w.heap.size + 1) o (by omega) (by omega)
    have hrf := fun o => hf' (w.heap.size + 1) o (by omega) (by omega)
    clear hc' hf'
    obtain ⟨rfl, rfl⟩ : r = r' ∧ ok = ok' := by have := H'.out; injection this with h1 h2; exact ⟨h1, h2⟩
    clear H'
    have hs3 := hs2.trans hs
    clear hs hs1
    go_wp2
    refine bodyPost_ret (v := .agg #[.int .i64 r.re, .int .i64 r.im, .int .i64 r.den]) (by simp [results, Tryd.results97, go_sem, *]) rfl (SmOut.mk (Lib.hid (HG.out.trans H.out)) hu rfl ?_)
    (repeat' first | assumption | exact Below.refl _ _ | exact Nat.le_refl _ | apply Sm.drewN | apply Sm.alloc | refine Sm.setOwn ?_ (by first | omega | (simp <;> omega)) (by assumption) _ )
set_option maxHeartbeats 2000000 in
theorem l4twice_any (n den : Int) (h0 : -1000000000000000000 ≤ 2 * n) (h1 : 2 * n ≤ 1000000000000000000) (d0 : 1 ≤ den) (d1 : den ≤ 1000000000000000000) (w : World) :
    Calls Tryd.prog 76 #[.int .i64 n, .int .i64 den] w (FrOut (low (2 * n) 0 den) w) := by
  go_enter Tryd.func76, Tryd.ntmps76
  have HB : Hid (Below w.heap.size w (w.alloc (.cells #[.int .i64 0, .int .i64 0, .int .i64 0] 23))) := by
    show Below _ _ _
    (repeat' first | exact Below.refl _ _ | apply bl_alloc | apply bl_drewN | apply bl_drew | refine bl_trans ?_ (by assumption) | refine bl_set ?_ (by first | omega | (simp <;> omega)) _)
  go_wp2_with fail
  refine (fracMake_any (2 * n) 0 den (by omega) (by omega) (by omega) (by omega) (by omega) (by omega) _).mono ?_
  rintro e w1 ho
  obtain ⟨rfl, hb⟩ := ho.fn
  obtain ⟨hc, hf, hz⟩ := bcellk (B := w.heap.size + 1) hb (by first | omega | (simp <;> omega))
  have HB := Lib.hid (show Below w.heap.size w w1 from HB.out.trans (hb.mono HB.out.size))
  clear ho hb
  go_wp2
  refine bodyPost_ret (v := .tuple #[.agg #[.int .i64 (low (2 * n) 0 den).1.re, .int .i64 (low (2 * n) 0 den).1.im, .int .i64 (low (2 * n) 0 den).1.den], .bool (low (2 * n) 0 den).2]) (by simp [results, Tryd.results76, go_sem, *]) rfl (FrOut.is rfl ?_)
  (repeat' first | (with_reducible exact HB.out) | with_reducible refine setCells_below _ _ _ ?_ (by first | omega | (simp <;> omega)) | with_reducible refine Below.setCell ?_ (by show _ ≤ _; first | omega | (simp <;> omega) | simp) _ | with_reducible refine Below.alloc ?_ (by first | omega | (simp <;> omega)) _ | with_reducible apply Below.drew)
set_option maxRecDepth 100000 in
set_option maxHeartbeats 8000000 in
theorem spsof_any (a : J2) (w : World) :
    Calls Tryd.prog 126 #[.agg #[.int .i64 a.x.re, .int .i64 a.x.im, .int .i64 a.x.den, .int .i64 a.y.re, .int .i64 a.y.im, .int .i64 a.y.den]] w (M4Out (sOf a) w) := by
  cases h1 : (fPower a.x).2
  · have HG : Hid ((sOf a) = (m4z, false)) := by show _ = _; simp [sOf, h1]
    go_enter Tryd.func126, Tryd.ntmps126
    go_wp2_with fail
    refine (sppower_fr a.x _).mono ?_
    rintro e w1 ho
    obtain ⟨rfl, hb⟩ := ho.fn
    have kc0 := fun o => hb.cell (p := ⟨w.heap.size, o, none⟩) (by show w.heap.size < _; first | omega | (simp <;> omega))
    have kc1 := fun o => hb.cell (p := ⟨w.heap.size + 1, o, none⟩) (by show w.heap.size + 1 < _; first | omega | (simp <;> omega))
    have kf0 := fun o => hb.frozen (p := ⟨w.heap.size + 1, o, none⟩) (by show w.heap.size + 1 < _; first | omega | (simp <;> omega))
    have hz := hb.size
    (try simp at hz)
    have kl0 : w.heap.size < w1.heap.size := by omega
    have kn0 : ¬ w.heap.size = w1.heap.size := by omega
    have km0 : ¬ w1.heap.size = w.heap.size := by omega
    have kl1 : w.heap.size + 1 < w1.heap.size := by omega
    have kn1 : ¬ w.heap.size + 1 = w1.heap.size := by omega
    have km1 : ¬ w1.heap.size = w.heap.size + 1 := by omega
    have HB := Lib.hid (show Below w.heap.size w w1 from by (repeat' first | exact Below.refl _ _ | apply bl_alloc | apply bl_drewN | apply bl_drew | refine bl_trans ?_ (by assumption) | refine bl_set ?_ (by first | omega | (simp <;> omega)) _))
    have HR := Lib.hid ((show Room _ (w.heap.size + 1) 4 from (Room.new' (by simp) rfl)).below hb (by first | omega | (simp <;> omega)))
    clear ho hb
    go_wp2_with fail
    refine (sppower_fr a.y _).mono ?_
    rintro e w2 ho
    obtain ⟨rfl, hb⟩ := ho.fn
    have kc0 := fun o => hb.cell (p := ⟨w.heap.size, o, none⟩) (by show w.heap.size < _; first | omega | (simp <;> omega))
    have kc1 := fun o => hb.cell (p := ⟨w.heap.size + 1, o, none⟩) (by show w.heap.size + 1 < _; first | omega | (simp <;> omega))
    have kc2 := fun o => hb.cell (p := ⟨w1.heap.size, o, none⟩) (by show w1.heap.size < _; first | omega | (simp <;> omega))
    have kf0 := fun o => hb.frozen (p := ⟨w.heap.size + 1, o, none⟩) (by show w.heap.size + 1 < _; first | omega | (simp <;> omega))
    have hz := hb.size
    (try simp at hz)
    have kl0 : w.heap.size < w2.heap.size := by omega
    have kn0 : ¬ w.heap.size = w2.heap.size := by omega
    have km0 : ¬ w2.heap.size = w.heap.size := by omega
    have kl1 : w.heap.size + 1 < w2.heap.size := by omega
    have kn1 : ¬ w.heap.size + 1 = w2.heap.size := by omega
    have km1 : ¬ w2.heap.size = w.heap.size + 1 := by omega
    have kl2 : w1.heap.size < w2.heap.size := by omega
    have kn2 : ¬ w1.heap.size = w2.heap.size := by omega
    have km2 : ¬ w2.heap.size = w1.heap.size := by omega
    have HB := Lib.hid (show Below w.heap.size w w2 from by exact HB.out.trans ((show Below _ _ _ from ((Below.refl _ _).alloc (by omega) _)).trans (hb.mono (by first | omega | (simp <;> omega)))))
    have HR := Lib.hid ((show Room _ (w.heap.size + 1) 4 from (HR.out.alloc (by omega) _)).below hb (by first | omega | (simp <;> omega)))
    clear ho hb
    go_wp2_with fail
    refine (spmirror_fr a.y _).mono ?_
    rintro e w3 ho
    obtain ⟨rfl, hb⟩ := ho.fn
    have kc0 := fun o => hb.cell (p := ⟨w.heap.size, o, none⟩) (by show w.heap.size < _; first | omega | (simp <;> omega))
    have kc1 := fun o => hb.cell (p := ⟨w.heap.size + 1, o, none⟩) (by show w.heap.size + 1 < _; first | omega | (simp <;> omega))
    have kc2 := fun o => hb.cell (p := ⟨w1.heap.size, o, none⟩) (by show w1.heap.size < _; first | omega | (simp <;> omega))
    have kc3 := fun o => hb.cell (p := ⟨w2.heap.size, o, none⟩) (by show w2.heap.size < _; first | omega | (simp <;> omega))
    have kf0 := fun o => hb.frozen (p := ⟨w.heap.size + 1, o, none⟩) (by show w.heap.size + 1 < _; first | omega | (simp <;> omega))
    have hz := hb.size
    (try simp at hz)
    have kl0 : w.heap.size < w3.heap.size := by omega
    have kn0 : ¬ w.heap.size = w3.heap.size := by omega
    have km0 : ¬ w3.heap.size = w.heap.size := by omega
    have kl1 : w.heap.size + 1 < w3.heap.size := by omega
    have kn1 : ¬ w.heap.size + 1 = w3.heap.size := by omega
    have km1 : ¬ w3.heap.size = w.heap.size + 1 := by omega
    have kl2 : w1.heap.size < w3.heap.size := by omega
    have kn2 : ¬ w1.heap.size = w3.heap.size := by omega
    have km2 : ¬ w3.heap.size = w1.heap.size := by omega
    have kl3 : w2.heap.size < w3.heap.size := by omega
    have kn3 : ¬ w2.heap.size = w3.heap.size := by omega
    have km3 : ¬ w3.heap.size = w2.heap.size := by omega
    have HB := Lib.hid (show Below w.heap.size w w3 from by exact HB.out.trans ((show Below _ _ _ from ((Below.refl _ _).alloc (by omega) _)).trans (hb.mono (by first | omega | (simp <;> omega)))))
    have HR := Lib.hid ((show Room _ (w.heap.size + 1) 4 from (HR.out.alloc (by omega) _)).below hb (by first | omega | (simp <;> omega)))
    clear ho hb
    go_wp2
    refine bodyPost_ret (v := .tuple #[.agg #[.int .i64 0, .int .i64 0, .int .i64 0, .int .i64 0, .int .i64 0, .int .i64 0, .int .i64 0, .int .i64 0, .int .i64 0, .int .i64 0, .int .i64 0, .int .i64 0], .bool false]) ?_ rfl (M4Out.no HG.out ?_)
    · exact Eq.trans (results_cell_mid2 Tryd.results126 _ _ (w.heap.size + 1) [.int .i64 0, .int .i64 0, .int .i64 0, .int .i64 0, .int .i64 0, .int .i64 0, .int .i64 0, .int .i64 0, .int .i64 0, .int .i64 0, .int .i64 0, .int .i64 0] _ (by rfl) (by ((repeat' first | (with_reducible refine World.rangeAt_setCells_same _ (w.heap.size + 1) 0 [.int .i64 0, .int .i64 0, .int .i64 0, .int .i64 0, .int .i64 0, .int .i64 0, .int .i64 0, .int .i64 0, .int .i64 0, .int .i64 0, .int .i64 0, .int .i64 0] ?_) | (with_reducible refine World.rangeAt_alloc ?_ _) | (with_reducible refine (World.rangeAt_drew _ _ _ _).2 ?_)); first | exact HR.out.there | (have hh := fun W h => World.rangeAt_setCells_same W (w.heap.size + 1) 0 [.int .i64 0, .int .i64 0, .int .i64 0, .int .i64 0, .int .i64 0, .int .i64 0, .int .i64 0, .int .i64 0, .int .i64 0, .int .i64 0, .int .i64 0, .int .i64 0] h; simp only [World.setCells, Nat.zero_add, Nat.reduceAdd] at hh; exact hh _ HR.out.there))) Tryd.underlying51 rfl (by kernel_rfl)) rfl
    · (repeat' first | (with_reducible exact HB.out) | with_reducible refine setCells_below _ _ _ ?_ (by first | omega | (simp <;> omega)) | with_reducible refine Below.setCell ?_ (by show _ ≤ _; first | omega | (simp <;> omega) | simp) _ | with_reducible refine Below.alloc ?_ (by first | omega | (simp <;> omega)) _ | with_reducible apply Below.drew)
  cases h2 : (fPower a.y).2
  · have HG : Hid ((sOf a) = (m4z, false)) := by show _ = _; simp [sOf, h1, h2]
    go_enter Tryd.func126, Tryd.ntmps126
    go_wp2_with fail
    refine (sppower_fr a.x _).mono ?_
    rintro e w1 ho
    obtain ⟨rfl, hb⟩ := ho.fn
    have kc0 := fun o => hb.cell (p := ⟨w.heap.size, o, none⟩) (by show w.heap.size < _; first | omega | (simp <;> omega))
    have kc1 := fun o => hb.cell (p := ⟨w.heap.size + 1, o, none⟩) (by show w.heap.size + 1 < _; first | omega | (simp <;> omega))
    have kf0 := fun o => hb.frozen (p := ⟨w.heap.size + 1, o, none⟩) (by show w.heap.size + 1 < _; first | omega | (simp <;> omega))
    have hz := hb.size
    (try simp at hz)
    have kl0 : w.heap.size < w1.heap.size := by omega
    have kn0 : ¬ w.heap.size = w1.heap.size := by omega
    have km0 : ¬ w1.heap.size = w.heap.size := by omega
    have kl1 : w.heap.size + 1 < w1.heap.size := by omega
    have kn1 : ¬ w.heap.size + 1 = w1.heap.size := by omega
    have km1 : ¬ w1.heap.size = w.heap.size + 1 := by omega
    have HB := Lib.hid (show Below w.heap.size w w1 from by (repeat' first | exact Below.refl _ _ | apply bl_alloc | apply bl_drewN | apply bl_drew | refine bl_trans ?_ (by assumption) | refine bl_set ?_ (by first | omega | (simp <;> omega)) _))
    have HR := Lib.hid ((show Room _ (w.heap.size + 1) 4 from (Room.new' (by simp) rfl)).below hb (by first | omega | (simp <;> omega)))
    clear ho hb
    go_wp2_with fail
    refine (sppower_fr a.y _).mono ?_
    rintro e w2 ho
    obtain ⟨rfl, hb⟩ := ho.fn
    have kc0 := fun o => hb.cell (p := ⟨w.heap.size, o, none⟩) (by show w.heap.size < _; first | omega | (simp <;> omega))
    have kc1 := fun o => hb.cell (p := ⟨w.heap.size + 1, o, none⟩) (by show w.heap.size + 1 < _; first | omega | (simp <;> omega))
    have kc2 := fun o => hb.cell (p := ⟨w1.heap.size, o, none⟩) (by show w1.heap.size < _; first | omega | (simp <;> omega))
    have kf0 := fun o => hb.frozen (p := ⟨w.heap.size + 1, o, none⟩) (by show w.heap.size + 1 < _; first | omega | (simp <;> omega))
    have hz := hb.size
    (try simp at hz)
    have kl0 : w.heap.size < w2.heap.size := by omega
    have kn0 : ¬ w.heap.size = w2.heap.size := by omega
    have km0 : ¬ w2.heap.size = w.heap.size := by omega
    have kl1 : w.heap.size + 1 < w2.heap.size := by omega
    have kn1 : ¬ w.heap.size + 1 = w2.heap.size := by omega
    have km1 : ¬ w2.heap.size = w.heap.size + 1 := by omega
    have kl2 : w1.heap.size < w2.heap.size := by omega
    have kn2 : ¬ w1.heap.size = w2.heap.size := by omega
    have km2 : ¬ w2.heap.size = w1.heap.size := by omega
    have HB := Lib.hid (show Below w.heap.size w w2 from by exact HB.out.trans ((show Below _ _ _ from ((Below.refl _ _).alloc (by omega) _)).trans (hb.mono (by first | omega | (simp <;> omega)))))
    have HR := Lib.hid ((show Room _ (w.heap.size + 1) 4 from (HR.out.alloc (by omega) _)).below hb (by first | omega | (simp <;> omega)))
    clear ho hb
    go_wp2_with fail
    refine (spmirror_fr a.y _).mono ?_
    rintro e w3 ho
    obtain ⟨rfl, hb⟩ := ho.fn
    have kc0 := fun o => hb.cell (p := ⟨w.heap.size, o, none⟩) (by show w.heap.size < _; first | omega | (simp <;> omega))
    have kc1 := fun o => hb.cell (p := ⟨w.heap.size + 1, o, none⟩) (by show w.heap.size + 1 < _; first | omega | (simp <;> omega))
    have kc2 := fun o => hb.cell (p := ⟨w1.heap.size, o, none⟩) (by show w1.heap.size < _; first | omega | (simp <;> omega))
    have kc3 := fun o => hb.cell (p := ⟨w2.heap.size, o, none⟩) (by show w2.heap.size < _; first | omega | (simp <;> omega))
    have kf0 := fun o => hb.frozen (p := ⟨w.heap.size + 1, o, none⟩) (by show w.heap.size + 1 < _; first | omega | (simp <;> omega))
    have hz := hb.size
    (try simp at hz)
    have kl0 : w.heap.size < w3.heap.size := by omega
    have kn0 : ¬ w.heap.size = w3.heap.size := by omega
    have km0 : ¬ w3.heap.size = w.heap.size := by omega
    have kl1 : w.heap.size + 1 < w3.heap.size := by omega
    have kn1 : ¬ w.heap.size + 1 = w3.heap.size := by omega
    have km1 : ¬ w3.heap.size = w.heap.size + 1 := by omega
    have kl2 : w1.heap.size < w3.heap.size := by omega
    have kn2 : ¬ w1.heap.size = w3.heap.size := by omega
    have km2 : ¬ w3.heap.size = w1.heap.size := by omega
    have kl3 : w2.heap.size < w3.heap.size := by omega
    have kn3 : ¬ w2.heap.size = w3.heap.size := by omega
    have km3 : ¬ w3.heap.size = w2.heap.size := by omega
    have HB := Lib.hid (show Below w.heap.size w w3 from by exact HB.out.trans ((show Below _ _ _ from ((Below.refl _ _).alloc (by omega) _)).trans (hb.mono (by first | omega | (simp <;> omega)))))
    have HR := Lib.hid ((show Room _ (w.heap.size + 1) 4 from (HR.out.alloc (by omega) _)).below hb (by first | omega | (simp <;> omega)))
    clear ho hb
    go_wp2
    refine bodyPost_ret (v := .tuple #[.agg #[.int .i64 0, .int .i64 0, .int .i64 0, .int .i64 0, .int .i64 0, .int .i64 0, .int .i64 0, .int .i64 0, .int .i64 0, .int .i64 0, .int .i64 0, .int .i64 0], .bool false]) ?_ rfl (M4Out.no HG.out ?_)
    · exact Eq.trans (results_cell_mid2 Tryd.results126 _ _ (w.heap.size + 1) [.int .i64 0, .int .i64 0, .int .i64 0, .int .i64 0, .int .i64 0, .int .i64 0, .int .i64 0, .int .i64 0, .int .i64 0, .int .i64 0, .int .i64 0, .int .i64 0] _ (by rfl) (by ((repeat' first | (with_reducible refine World.rangeAt_setCells_same _ (w.heap.size + 1) 0 [.int .i64 0, .int .i64 0, .int .i64 0, .int .i64 0, .int .i64 0, .int .i64 0, .int .i64 0, .int .i64 0, .int .i64 0, .int .i64 0, .int .i64 0, .int .i64 0] ?_) | (with_reducible refine World.rangeAt_alloc ?_ _) | (with_reducible refine (World.rangeAt_drew _ _ _ _).2 ?_)); first | exact HR.out.there | (have hh := fun W h => World.rangeAt_setCells_same W (w.heap.size + 1) 0 [.int .i64 0, .int .i64 0, .int .i64 0, .int .i64 0, .int .i64 0, .int .i64 0, .int .i64 0, .int .i64 0, .int .i64 0, .int .i64 0, .int .i64 0, .int .i64 0] h; simp only [World.setCells, Nat.zero_add, Nat.reduceAdd] at hh; exact hh _ HR.out.there))) Tryd.underlying51 rfl (by kernel_rfl)) rfl
    · (repeat' first | (with_reducible exact HB.out) | with_reducible refine setCells_below _ _ _ ?_ (by first | omega | (simp <;> omega)) | with_reducible refine Below.setCell ?_ (by show _ ≤ _; first | omega | (simp <;> omega) | simp) _ | with_reducible refine Below.alloc ?_ (by first | omega | (simp <;> omega)) _ | with_reducible apply Below.drew)
  cases h3 : (fMirror a.y).2
  · have HG : Hid ((sOf a) = (m4z, false)) := by show _ = _; simp [sOf, h1, h2, h3]
    go_enter Tryd.func126, Tryd.ntmps126
    go_wp2_with fail
    refine (sppower_fr a.x _).mono ?_
    rintro e w1 ho
    obtain ⟨rfl, hb⟩ := ho.fn
    have kc0 := fun o => hb.cell (p := ⟨w.heap.size, o, none⟩) (by show w.heap.size < _; first | omega | (simp <;> omega))
    have kc1 := fun o => hb.cell (p := ⟨w.heap.size + 1, o, none⟩) (by show w.heap.size + 1 < _; first | omega | (simp <;> omega))
    have kf0 := fun o => hb.frozen (p := ⟨w.heap.size + 1, o, none⟩) (by show w.heap.size + 1 < _; first | omega | (simp <;> omega))
    have hz := hb.size
    (try simp at hz)
    have kl0 : w.heap.size < w1.heap.size := by omega
    have kn0 : ¬ w.heap.size = w1.heap.size := by omega
    have km0 : ¬ w1.heap.size = w.heap.size := by omega
    have kl1 : w.heap.size + 1 < w1.heap.size := by omega
    have kn1 : ¬ w.heap.size + 1 = w1.heap.size := by omega
    have km1 : ¬ w1.heap.size = w.heap.size + 1 := by omega
    have HB := Lib.hid (show Below w.heap.size w w1 from by (repeat' first | exact Below.refl _ _ | apply bl_alloc | apply bl_drewN | apply bl_drew | refine bl_trans ?_ (by assumption) | refine bl_set ?_ (by first | omega | (simp <;> omega)) _))
    have HR := Lib.hid ((show Room _ (w.heap.size + 1) 4 from (Room.new' (by simp) rfl)).below hb (by first | omega | (simp <;> omega)))
    clear ho hb
    go_wp2_with fail
    refine (sppower_fr a.y _).mono ?_
    rintro e w2 ho
    obtain ⟨rfl, hb⟩ := ho.fn
    have kc0 := fun o => hb.cell (p := ⟨w.heap.size, o, none⟩) (by show w.heap.size < _; first | omega | (simp <;> omega))
    have kc1 := fun o => hb.cell (p := ⟨w.heap.size + 1, o, none⟩) (by show w.heap.size + 1 < _; first | omega | (simp <;> omega))
    have kc2 := fun o => hb.cell (p := ⟨w1.heap.size, o, none⟩) (by show w1.heap.size < _; first | omega | (simp <;> omega))
    have kf0 := fun o => hb.frozen (p := ⟨w.heap.size + 1, o, none⟩) (by show w.heap.size + 1 < _; first | omega | (simp <;> omega))
    have hz := hb.size
    (try simp at hz)
    have kl0 : w.heap.size < w2.heap.size := by omega
    have kn0 : ¬ w.heap.size = w2.heap.size := by omega
    have km0 : ¬ w2.heap.size = w.heap.size := by omega
    have kl1 : w.heap.size + 1 < w2.heap.size := by omega
    have kn1 : ¬ w.heap.size + 1 = w2.heap.size := by omega
    have km1 : ¬ w2.heap.size = w.heap.size + 1 := by omega
    have kl2 : w1.heap.size < w2.heap.size := by omega
    have kn2 : ¬ w1.heap.size = w2.heap.size := by omega
    have km2 : ¬ w2.heap.size = w1.heap.size := by omega
    have HB := Lib.hid (show Below w.heap.size w w2 from by exact HB.out.trans ((show Below _ _ _ from ((Below.refl _ _).alloc (by omega) _)).trans (hb.mono (by first | omega | (simp <;> omega)))))
    have HR := Lib.hid ((show Room _ (w.heap.size + 1) 4 from (HR.out.alloc (by omega) _)).below hb (by first | omega | (simp <;> omega)))
    clear ho hb
    go_wp2_with fail
    refine (spmirror_fr a.y _).mono ?_
    rintro e w3 ho
    obtain ⟨rfl, hb⟩ := ho.fn
    have kc0 := fun o => hb.cell (p := ⟨w.heap.size, o, none⟩) (by show w.heap.size < _; first | omega | (simp <;> omega))
    have kc1 := fun o => hb.cell (p := ⟨w.heap.size + 1, o, none⟩) (by show w.heap.size + 1 < _; first | omega | (simp <;> omega))
    have kc2 := fun o => hb.cell (p := ⟨w1.heap.size, o, none⟩) (by show w1.heap.size < _; first | omega | (simp <;> omega))
    have kc3 := fun o => hb.cell (p := ⟨w2.heap.size, o, none⟩) (by show w2.heap.size < _; first | omega | (simp <;> omega))
    have kf0 := fun o => hb.frozen (p := ⟨w.heap.size + 1, o, none⟩) (by show w.heap.size + 1 < _; first | omega | (simp <;> omega))
    have hz := hb.size
    (try simp at hz)
    have kl0 : w.heap.size < w3.heap.size := by omega
    have kn0 : ¬ w.heap.size = w3.heap.size := by omega
    have km0 : ¬ w3.heap.size = w.heap.size := by omega
    have kl1 : w.heap.size + 1 < w3.heap.size := by omega
    have kn1 : ¬ w.heap.size + 1 = w3.heap.size := by omega
    have km1 : ¬ w3.heap.size = w.heap.size + 1 := by omega
    have kl2 : w1.heap.size < w3.heap.size := by omega
    have kn2 : ¬ w1.heap.size = w3.heap.size := by omega
    have km2 : ¬ w3.heap.size = w1.heap.size := by omega
    have kl3 : w2.heap.size < w3.heap.size := by omega
    have kn3 : ¬ w2.heap.size = w3.heap.size := by omega
    have km3 : ¬ w3.heap.size = w2.heap.size := by omega
    have HB := Lib.hid (show Below w.heap.size w w3 from by exact HB.out.trans ((show Below _ _ _ from ((Below.refl _ _).alloc (by omega) _)).trans (hb.mono (by first | omega | (simp <;> omega)))))
    have HR := Lib.hid ((show Room _ (w.heap.size + 1) 4 from (HR.out.alloc (by omega) _)).below hb (by first | omega | (simp <;> omega)))
    clear ho hb
    go_wp2
    refine bodyPost_ret (v := .tuple #[.agg #[.int .i64 0, .int .i64 0, .int .i64 0, .int .i64 0, .int .i64 0, .int .i64 0, .int .i64 0, .int .i64 0, .int .i64 0, .int .i64 0, .int .i64 0, .int .i64 0], .bool false]) ?_ rfl (M4Out.no HG.out ?_)
    · exact Eq.trans (results_cell_mid2 Tryd.results126 _ _ (w.heap.size + 1) [.int .i64 0, .int .i64 0, .int .i64 0, .int .i64 0, .int .i64 0, .int .i64 0, .int .i64 0, .int .i64 0, .int .i64 0, .int .i64 0, .int .i64 0, .int .i64 0] _ (by rfl) (by ((repeat' first | (with_reducible refine World.rangeAt_setCells_same _ (w.heap.size + 1) 0 [.int .i64 0, .int .i64 0, .int .i64 0, .int .i64 0, .int .i64 0, .int .i64 0, .int .i64 0, .int .i64 0, .int .i64 0, .int .i64 0, .int .i64 0, .int .i64 0] ?_) | (with_reducible refine World.rangeAt_alloc ?_ _) | (with_reducible refine (World.rangeAt_drew _ _ _ _).2 ?_)); first | exact HR.out.there | (have hh := fun W h => World.rangeAt_setCells_same W (w.heap.size + 1) 0 [.int .i64 0, .int .i64 0, .int .i64 0, .int .i64 0, .int .i64 0, .int .i64 0, .int .i64 0, .int .i64 0, .int .i64 0, .int .i64 0, .int .i64 0, .int .i64 0] h; simp only [World.setCells, Nat.zero_add, Nat.reduceAdd] at hh; exact hh _ HR.out.there))) Tryd.underlying51 rfl (by kernel_rfl)) rfl
    · (repeat' first | (with_reducible exact HB.out) | with_reducible refine setCells_below _ _ _ ?_ (by first | omega | (simp <;> omega)) | with_reducible refine Below.setCell ?_ (by show _ ≤ _; first | omega | (simp <;> omega) | simp) _ | with_reducible refine Below.alloc ?_ (by first | omega | (simp <;> omega)) _ | with_reducible apply Below.drew)
  cases h4 : (fTimes a.x (fMirror a.y).1).2
  · have HG : Hid ((sOf a) = (m4z, false)) := by show _ = _; simp [sOf, h1, h2, h3, h4]
    go_enter Tryd.func126, Tryd.ntmps126
    go_wp2_with fail
    refine (sppower_fr a.x _).mono ?_
    rintro e w1 ho
    obtain ⟨rfl, hb⟩ := ho.fn
    have kc0 := fun o => hb.cell (p := ⟨w.heap.size, o, none⟩) (by show w.heap.size < _; first | omega | (simp <;> omega))
    have kc1 := fun o => hb.cell (p := ⟨w.heap.size + 1, o, none⟩) (by show w.heap.size + 1 < _; first | omega | (simp <;> omega))
    have kf0 := fun o => hb.frozen (p := ⟨w.heap.size + 1, o, none⟩) (by show w.heap.size + 1 < _; first | omega | (simp <;> omega))
    have hz := hb.size
    (try simp at hz)
    have kl0 : w.heap.size < w1.heap.size := by omega
    have kn0 : ¬ w.heap.size = w1.heap.size := by omega
    have km0 : ¬ w1.heap.size = w.heap.size := by omega
    have kl1 : w.heap.size + 1 < w1.heap.size := by omega
    have kn1 : ¬ w.heap.size + 1 = w1.heap.size := by omega
    have km1 : ¬ w1.heap.size = w.heap.size + 1 := by omega
    have HB := Lib.hid (show Below w.heap.size w w1 from by (repeat' first | exact Below.refl _ _ | apply bl_alloc | apply bl_drewN | apply bl_drew | refine bl_trans ?_ (by assumption) | refine bl_set ?_ (by first | omega | (simp <;> omega)) _))
    have HR := Lib.hid ((show Room _ (w.heap.size + 1) 4 from (Room.new' (by simp) rfl)).below hb (by first | omega | (simp <;> omega)))
    clear ho hb
    go_wp2_with fail
    refine (sppower_fr a.y _).mono ?_
    rintro e w2 ho
    obtain ⟨rfl, hb⟩ := ho.fn
    have kc0 := fun o => hb.cell (p := ⟨w.heap.size, o, none⟩) (by show w.heap.size < _; first | omega | (simp <;> omega))
    have kc1 := fun o => hb.cell (p := ⟨w.heap.size + 1, o, none⟩) (by show w.heap.size + 1 < _; first | omega | (simp <;> omega))
    have kc2 := fun o => hb.cell (p := ⟨w1.heap.size, o, none⟩) (by show w1.heap.size < _; first | omega | (simp <;> omega))
    have kf0 := fun o => hb.frozen (p := ⟨w.heap.size + 1, o, none⟩) (by show w.heap.size + 1 < _; first | omega | (simp <;> omega))
    have hz := hb.size
    (try simp at hz)
    have kl0 : w.heap.size < w2.heap.size := by omega
    have kn0 : ¬ w.heap.size = w2.heap.size := by omega
    have km0 : ¬ w2.heap.size = w.heap.size := by omega
    have kl1 : w.heap.size + 1 < w2.heap.size := by omega
    have kn1 : ¬ w.heap.size + 1 = w2.heap.size := by omega
    have km1 : ¬ w2.heap.size = w.heap.size + 1 := by omega
    have kl2 : w1.heap.size < w2.heap.size := by omega
    have kn2 : ¬ w1.heap.size = w2.heap.size := by omega
    have km2 : ¬ w2.heap.size = w1.heap.size := by omega
    have HB := Lib.hid (show Below w.heap.size w w2 from by exact HB.out.trans ((show Below _ _ _ from ((Below.refl _ _).alloc (by omega) _)).trans (hb.mono (by first | omega | (simp <;> omega)))))
    have HR := Lib.hid ((show Room _ (w.heap.size + 1) 4 from (HR.out.alloc (by omega) _)).below hb (by first | omega | (simp <;> omega)))
    clear ho hb
    go_wp2_with fail
    refine (spmirror_fr a.y _).mono ?_
    rintro e w3 ho
    obtain ⟨rfl, hb⟩ := ho.fn
    have kc0 := fun o => hb.cell (p := ⟨w.heap.size, o, none⟩) (by show w.heap.size < _; first | omega | (simp <;> omega))
    have kc1 := fun o => hb.cell (p := ⟨w.heap.size + 1, o, none⟩) (by show w.heap.size + 1 < _; first | omega | (simp <;> omega))
    have kc2 := fun o => hb.cell (p := ⟨w1.heap.size, o, none⟩) (by show w1.heap.size < _; first | omega | (simp <;> omega))
    have kc3 := fun o => hb.cell (p := ⟨w2.heap.size, o, none⟩) (by show w2.heap.size < _; first | omega | (simp <;> omega))
    have kf0 := fun o => hb.frozen (p := ⟨w.heap.size + 1, o, none⟩) (by show w.heap.size + 1 < _; first | omega | (simp <;> omega))
    have hz := hb.size
    (try simp at hz)
    have kl0 : w.heap.size < w3.heap.size := by omega
    have kn0 : ¬ w.heap.size = w3.heap.size := by omega
    have km0 : ¬ w3.heap.size = w.heap.size := by omega
    have kl1 : w.heap.size + 1 < w3.heap.size := by omega
    have kn1 : ¬ w.heap.size + 1 = w3.heap.size := by omega
    have km1 : ¬ w3.heap.size = w.heap.size + 1 := by omega
    have kl2 : w1.heap.size < w3.heap.size := by omega
    have kn2 : ¬ w1.heap.size = w3.heap.size := by omega
    have km2 : ¬ w3.heap.size = w1.heap.size := by omega
    have kl3 : w2.heap.size < w3.heap.size := by omega
    have kn3 : ¬ w2.heap.size = w3.heap.size := by omega
    have km3 : ¬ w3.heap.size = w2.heap.size := by omega
    have HB := Lib.hid (show Below w.heap.size w w3 from by exact HB.out.trans ((show Below _ _ _ from ((Below.refl _ _).alloc (by omega) _)).trans (hb.mono (by first | omega | (simp <;> omega)))))
    have HR := Lib.hid ((show Room _ (w.heap.size + 1) 4 from (HR.out.alloc (by omega) _)).below hb (by first | omega | (simp <;> omega)))
    clear ho hb
    go_wp2_with fail
    refine (sptimes_fr a.x (fMirror a.y).1 _).mono ?_
    rintro e w4 ho
    obtain ⟨rfl, hb⟩ := ho.fn
    have kc0 := fun o => hb.cell (p := ⟨w.heap.size, o, none⟩) (by show w.heap.size < _; first | omega | (simp <;> omega))
    have kc1 := fun o => hb.cell (p := ⟨w.heap.size + 1, o, none⟩) (by show w.heap.size + 1 < _; first | omega | (simp <;> omega))
    have kc2 := fun o => hb.cell (p := ⟨w1.heap.size, o, none⟩) (by show w1.heap.size < _; first | omega | (simp <;> omega))
    have kc3 := fun o => hb.cell (p := ⟨w2.heap.size, o, none⟩) (by show w2.heap.size < _; first | omega | (simp <;> omega))
    have kc4 := fun o => hb.cell (p := ⟨w3.heap.size, o, none⟩) (by show w3.heap.size < _; first | omega | (simp <;> omega))
    have kf0 := fun o => hb.frozen (p := ⟨w.heap.size + 1, o, none⟩) (by show w.heap.size + 1 < _; first | omega | (simp <;> omega))
    have hz := hb.size
    (try simp at hz)
    have kl0 : w.heap.size < w4.heap.size := by omega
    have kn0 : ¬ w.heap.size = w4.heap.size := by omega
    have km0 : ¬ w4.heap.size = w.heap.size := by omega
    have kl1 : w.heap.size + 1 < w4.heap.size := by omega
    have kn1 : ¬ w.heap.size + 1 = w4.heap.size := by omega
    have km1 : ¬ w4.heap.size = w.heap.size + 1 := by omega
    have kl2 : w1.heap.size < w4.heap.size := by omega
    have kn2 : ¬ w1.heap.size = w4.heap.size := by omega
    have km2 : ¬ w4.heap.size = w1.heap.size := by omega
    have kl3 : w2.heap.size < w4.heap.size := by omega
    have kn3 : ¬ w2.heap.size = w4.heap.size := by omega
    have km3 : ¬ w4.heap.size = w2.heap.size := by omega
    have kl4 : w3.heap.size < w4.heap.size := by omega
    have kn4 : ¬ w3.heap.size = w4.heap.size := by omega
    have km4 : ¬ w4.heap.size = w3.heap.size := by omega
    have HB := Lib.hid (show Below w.heap.size w w4 from by exact HB.out.trans ((show Below _ _ _ from ((Below.refl _ _).alloc (by omega) _)).trans (hb.mono (by first | omega | (simp <;> omega)))))
    have HR := Lib.hid ((show Room _ (w.heap.size + 1) 4 from (HR.out.alloc (by omega) _)).below hb (by first | omega | (simp <;> omega)))
    clear ho hb
    go_wp2_with fail
    refine (spadd_fr _ _ _).mono ?_
    rintro e w5 ho
    obtain ⟨rfl, hb⟩ := ho.fn
    have kc0 := fun o => hb.cell (p := ⟨w.heap.size, o, none⟩) (by show w.heap.size < _; first | omega | (simp <;> omega))
    have kc1 := fun o => hb.cell (p := ⟨w.heap.size + 1, o, none⟩) (by show w.heap.size + 1 < _; first | omega | (simp <;> omega))
    have kc2 := fun o => hb.cell (p := ⟨w1.heap.size, o, none⟩) (by show w1.heap.size < _; first | omega | (simp <;> omega))
    have kc3 := fun o => hb.cell (p := ⟨w2.heap.size, o, none⟩) (by show w2.heap.size < _; first | omega | (simp <;> omega))
    have kc4 := fun o => hb.cell (p := ⟨w3.heap.size, o, none⟩) (by show w3.heap.size < _; first | omega | (simp <;> omega))
    have kc5 := fun o => hb.cell (p := ⟨w4.heap.size, o, none⟩) (by show w4.heap.size < _; first | omega | (simp <;> omega))
    have kf0 := fun o => hb.frozen (p := ⟨w.heap.size + 1, o, none⟩) (by show w.heap.size + 1 < _; first | omega | (simp <;> omega))
    have hz := hb.size
    (try simp at hz)
    have kl0 : w.heap.size < w5.heap.size := by omega
    have kn0 : ¬ w.heap.size = w5.heap.size := by omega
    have km0 : ¬ w5.heap.size = w.heap.size := by omega
    have kl1 : w.heap.size + 1 < w5.heap.size := by omega
    have kn1 : ¬ w.heap.size + 1 = w5.heap.size := by omega
    have km1 : ¬ w5.heap.size = w.heap.size + 1 := by omega
    have kl2 : w1.heap.size < w5.heap.size := by omega
    have kn2 : ¬ w1.heap.size = w5.heap.size := by omega
    have km2 : ¬ w5.heap.size = w1.heap.size := by omega
    have kl3 : w2.heap.size < w5.heap.size := by omega
    have kn3 : ¬ w2.heap.size = w5.heap.size := by omega
    have km3 : ¬ w5.heap.size = w2.heap.size := by omega
    have kl4 : w3.heap.size < w5.heap.size := by omega
    have kn4 : ¬ w3.heap.size = w5.heap.size := by omega
    have km4 : ¬ w5.heap.size = w3.heap.size := by omega
    have kl5 : w4.heap.size < w5.heap.size := by omega
    have kn5 : ¬ w4.heap.size = w5.heap.size := by omega
    have km5 : ¬ w5.heap.size = w4.heap.size := by omega
    have HB := Lib.hid (show Below w.heap.size w w5 from by exact HB.out.trans ((show Below _ _ _ from ((Below.refl _ _).alloc (by omega) _)).trans (hb.mono (by first | omega | (simp <;> omega)))))
    have HR := Lib.hid ((show Room _ (w.heap.size + 1) 4 from (HR.out.alloc (by omega) _)).below hb (by first | omega | (simp <;> omega)))
    clear ho hb
    go_wp2_with fail
    refine (spless_fr _ _ _).mono ?_
    rintro e w6 ho
    obtain ⟨rfl, hb⟩ := ho.fn
    have kc0 := fun o => hb.cell (p := ⟨w.heap.size, o, none⟩) (by show w.heap.size < _; first | omega | (simp <;> omega))
    have kc1 := fun o => hb.cell (p := ⟨w.heap.size + 1, o, none⟩) (by show w.heap.size + 1 < _; first | omega | (simp <;> omega))
    have kc2 := fun o => hb.cell (p := ⟨w1.heap.size, o, none⟩) (by show w1.heap.size < _; first | omega | (simp <;> omega))
    have kc3 := fun o => hb.cell (p := ⟨w2.heap.size, o, none⟩) (by show w2.heap.size < _; first | omega | (simp <;> omega))
    have kc4 := fun o => hb.cell (p := ⟨w3.heap.size, o, none⟩) (by show w3.heap.size < _; first | omega | (simp <;> omega))
    have kc5 := fun o => hb.cell (p := ⟨w4.heap.size, o, none⟩) (by show w4.heap.size < _; first | omega | (simp <;> omega))
    have kc6 := fun o => hb.cell (p := ⟨w5.heap.size, o, none⟩) (by show w5.heap.size < _; first | omega | (simp <;> omega))
    have kf0 := fun o => hb.frozen (p := ⟨w.heap.size + 1, o, none⟩) (by show w.heap.size + 1 < _; first | omega | (simp <;> omega))
    have hz := hb.size
    (try simp at hz)
    have kl0 : w.heap.size < w6.heap.size := by omega
    have kn0 : ¬ w.heap.size = w6.heap.size := by omega
    have km0 : ¬ w6.heap.size = w.heap.size := by omega
    have kl1 : w.heap.size + 1 < w6.heap.size := by omega
    have kn1 : ¬ w.heap.size + 1 = w6.heap.size := by omega
    have km1 : ¬ w6.heap.size = w.heap.size + 1 := by omega
    have kl2 : w1.heap.size < w6.heap.size := by omega
    have kn2 : ¬ w1.heap.size = w6.heap.size := by omega
    have km2 : ¬ w6.heap.size = w1.heap.size := by omega
    have kl3 : w2.heap.size < w6.heap.size := by omega
    have kn3 : ¬ w2.heap.size = w6.heap.size := by omega
    have km3 : ¬ w6.heap.size = w2.heap.size := by omega
    have kl4 : w3.heap.size < w6.heap.size := by omega
    have kn4 : ¬ w3.heap.size = w6.heap.size := by omega
    have km4 : ¬ w6.heap.size = w3.heap.size := by omega
    have kl5 : w4.heap.size < w6.heap.size := by omega
    have kn5 : ¬ w4.heap.size = w6.heap.size := by omega
    have km5 : ¬ w6.heap.size = w4.heap.size := by omega
    have kl6 : w5.heap.size < w6.heap.size := by omega
    have kn6 : ¬ w5.heap.size = w6.heap.size := by omega
    have km6 : ¬ w6.heap.size = w5.heap.size := by omega
    have HB := Lib.hid (show Below w.heap.size w w6 from by exact HB.out.trans ((show Below _ _ _ from ((Below.refl _ _).alloc (by omega) _)).trans (hb.mono (by first | omega | (simp <;> omega)))))
    have HR := Lib.hid ((show Room _ (w.heap.size + 1) 4 from (HR.out.alloc (by omega) _)).below hb (by first | omega | (simp <;> omega)))
    clear ho hb
    go_wp2
    refine bodyPost_ret (v := .tuple #[.agg #[.int .i64 0, .int .i64 0, .int .i64 0, .int .i64 0, .int .i64 0, .int .i64 0, .int .i64 0, .int .i64 0, .int .i64 0, .int .i64 0, .int .i64 0, .int .i64 0], .bool false]) ?_ rfl (M4Out.no HG.out ?_)
    · exact Eq.trans (results_cell_mid2 Tryd.results126 _ _ (w.heap.size + 1) [.int .i64 0, .int .i64 0, .int .i64 0, .int .i64 0, .int .i64 0, .int .i64 0, .int .i64 0, .int .i64 0, .int .i64 0, .int .i64 0, .int .i64 0, .int .i64 0] _ (by rfl) (by ((repeat' first | (with_reducible refine World.rangeAt_setCells_same _ (w.heap.size + 1) 0 [.int .i64 0, .int .i64 0, .int .i64 0, .int .i64 0, .int .i64 0, .int .i64 0, .int .i64 0, .int .i64 0, .int .i64 0, .int .i64 0, .int .i64 0, .int .i64 0] ?_) | (with_reducible refine World.rangeAt_alloc ?_ _) | (with_reducible refine (World.rangeAt_drew _ _ _ _).2 ?_)); first | exact HR.out.there | (have hh := fun W h => World.rangeAt_setCells_same W (w.heap.size + 1) 0 [.int .i64 0, .int .i64 0, .int .i64 0, .int .i64 0, .int .i64 0, .int .i64 0, .int .i64 0, .int .i64 0, .int .i64 0, .int .i64 0, .int .i64 0, .int .i64 0] h; simp only [World.setCells, Nat.zero_add, Nat.reduceAdd] at hh; exact hh _ HR.out.there))) Tryd.underlying51 rfl (by kernel_rfl)) rfl
    · (repeat' first | (with_reducible exact HB.out) | with_reducible refine setCells_below _ _ _ ?_ (by first | omega | (simp <;> omega)) | with_reducible refine Below.setCell ?_ (by show _ ≤ _; first | omega | (simp <;> omega) | simp) _ | with_reducible refine Below.alloc ?_ (by first | omega | (simp <;> omega)) _ | with_reducible apply Below.drew)
  cases h5 : (fAdd (fPower a.x).1 (fPower a.y).1).2
  · have HG : Hid ((sOf a) = (m4z, false)) := by show _ = _; simp [sOf, h1, h2, h3, h4, h5]
    go_enter Tryd.func126, Tryd.ntmps126
    go_wp2_with fail
    refine (sppower_fr a.x _).mono ?_
    rintro e w1 ho
    obtain ⟨rfl, hb⟩ := ho.fn
    have kc0 := fun o => hb.cell (p := ⟨w.heap.size, o, none⟩) (by show w.heap.size < _; first | omega | (simp <;> omega))
    have kc1 := fun o => hb.cell (p := ⟨w.heap.size + 1, o, none⟩) (by show w.heap.size + 1 < _; first | omega | (simp <;> omega))
    have kf0 := fun o => hb.frozen (p := ⟨w.heap.size + 1, o, none⟩) (by show w.heap.size + 1 < _; first | omega | (simp <;> omega))
    have hz := hb.size
    (try simp at hz)
    have kl0 : w.heap.size < w1.heap.size := by omega
    have kn0 : ¬ w.heap.size = w1.heap.size := by omega
    have km0 : ¬ w1.heap.size = w.heap.size := by omega
    have kl1 : w.heap.size + 1 < w1.heap.size := by omega
    have kn1 : ¬ w.heap.size + 1 = w1.heap.size := by omega
    have km1 : ¬ w1.heap.size = w.heap.size + 1 := by omega
    have HB := Lib.hid (show Below w.heap.size w w1 from by (repeat' first | exact Below.refl _ _ | apply bl_alloc | apply bl_drewN | apply bl_drew | refine bl_trans ?_ (by assumption) | refine bl_set ?_ (by first | omega | (simp <;> omega)) _))
    have HR := Lib.hid ((show Room _ (w.heap.size + 1) 4 from (Room.new' (by simp) rfl)).below hb (by first | omega | (simp <;> omega)))
    clear ho hb
    go_wp2_with fail
    refine (sppower_fr a.y _).mono ?_
    rintro e w2 ho
    obtain ⟨rfl, hb⟩ := ho.fn
    have kc0 := fun o => hb.cell (p := ⟨w.heap.size, o, none⟩) (by show w.heap.size < _; first | omega | (simp <;> omega))
    have kc1 := fun o => hb.cell (p := ⟨w.heap.size + 1, o, none⟩) (by show w.heap.size + 1 < _; first | omega | (simp <;> omega))
    have kc2 := fun o => hb.cell (p := ⟨w1.heap.size, o, none⟩) (by show w1.heap.size < _; first | omega | (simp <;> omega))
    have kf0 := fun o => hb.frozen (p := ⟨w.heap.size + 1, o, none⟩) (by show w.heap.size + 1 < _; first | omega | (simp <;> omega))
    have hz := hb.size
    (try simp at hz)
    have kl0 : w.heap.size < w2.heap.size := by omega
    have kn0 : ¬ w.heap.size = w2.heap.size := by omega
    have km0 : ¬ w2.heap.size = w.heap.size := by omega
    have kl1 : w.heap.size + 1 < w2.heap.size := by omega
    have kn1 : ¬ w.heap.size + 1 = w2.heap.size := by omega
    have km1 : ¬ w2.heap.size = w.heap.size + 1 := by omega
    have kl2 : w1.heap.size < w2.heap.size := by omega
    have kn2 : ¬ w1.heap.size = w2.heap.size := by omega
    have km2 : ¬ w2.heap.size = w1.heap.size := by omega
    have HB := Lib.hid (show Below w.heap.size w w2 from by exact HB.out.trans ((show Below _ _ _ from ((Below.refl _ _).alloc (by omega) _)).trans (hb.mono (by first | omega | (simp <;> omega)))))
    have HR := Lib.hid ((show Room _ (w.heap.size + 1) 4 from (HR.out.alloc (by omega) _)).below hb (by first | omega | (simp <;> omega)))
    clear ho hb
    go_wp2_with fail
    refine (spmirror_fr a.y _).mono ?_
    rintro e w3 ho
    obtain ⟨rfl, hb⟩ := ho.fn
    have kc0 := fun o => hb.cell (p := ⟨w.heap.size, o, none⟩) (by show w.heap.size < _; first | omega | (simp <;> omega))
    have kc1 := fun o => hb.cell (p := ⟨w.heap.size + 1, o, none⟩) (by show w.heap.size + 1 < _; first | omega | (simp <;> omega))
    have kc2 := fun o => hb.cell (p := ⟨w1.heap.size, o, none⟩) (by show w1.heap.size < _; first | omega | (simp <;> omega))
    have kc3 := fun o => hb.cell (p := ⟨w2.heap.size, o, none⟩) (by show w2.heap.size < _; first | omega | (simp <;> omega))
    have kf0 := fun o => hb.frozen (p := ⟨w.heap.size + 1, o, none⟩) (by show w.heap.size + 1 < _; first | omega | (simp <;> omega))
    have hz := hb.size
    (try simp at hz)
    have kl0 : w.heap.size < w3.heap.size := by omega
    have kn0 : ¬ w.heap.size = w3.heap.size := by omega
    have km0 : ¬ w3.heap.size = w.heap.size := by omega
    have kl1 : w.heap.size + 1 < w3.heap.size := by omega
    have kn1 : ¬ w.heap.size + 1 = w3.heap.size := by omega
    have km1 : ¬ w3.heap.size = w.heap.size + 1 := by omega
    have kl2 : w1.heap.size < w3.heap.size := by omega
    have kn2 : ¬ w1.heap.size = w3.heap.size := by omega
    have km2 : ¬ w3.heap.size = w1.heap.size := by omega
    have kl3 : w2.heap.size < w3.heap.size := by omega
    have kn3 : ¬ w2.heap.size = w3.heap.size := by omega
    have km3 : ¬ w3.heap.size = w2.heap.size := by omega
    have HB := Lib.hid (show Below w.heap.size w w3 from by exact HB.out.trans ((show Below _ _ _ from ((Below.refl _ _).alloc (by omega) _)).trans (hb.mono (by first | omega | (simp <;> omega)))))
    have HR := Lib.hid ((show Room _ (w.heap.size + 1) 4 from (HR.out.alloc (by omega) _)).below hb (by first | omega | (simp <;> omega)))
    clear ho hb
    go_wp2_with fail
    refine (sptimes_fr a.x (fMirror a.y).1 _).mono ?_
    rintro e w4 ho
    obtain ⟨rfl, hb⟩ := ho.fn
    have kc0 := fun o => hb.cell (p := ⟨w.heap.size, o, none⟩) (by show w.heap.size < _; first | omega | (simp <;> omega))
    have kc1 := fun o => hb.cell (p := ⟨w.heap.size + 1, o, none⟩) (by show w.heap.size + 1 < _; first | omega | (simp <;> omega))
    have kc2 := fun o => hb.cell (p := ⟨w1.heap.size, o, none⟩) (by show w1.heap.size < _; first | omega | (simp <;> omega))
    have kc3 := fun o => hb.cell (p := ⟨w2.heap.size, o, none⟩) (by show w2.heap.size < _; first | omega | (simp <;> omega))
    have kc4 := fun o => hb.cell (p := ⟨w3.heap.size, o, none⟩) (by show w3.heap.size < _; first | omega | (simp <;> omega))
    have kf0 := fun o => hb.frozen (p := ⟨w.heap.size + 1, o, none⟩) (by show w.heap.size + 1 < _; first | omega | (simp <;> omega))
    have hz := hb.size
    (try simp at hz)
    have kl0 : w.heap.size < w4.heap.size := by omega
    have kn0 : ¬ w.heap.size = w4.heap.size := by omega
    have km0 : ¬ w4.heap.size = w.heap.size := by omega
    have kl1 : w.heap.size + 1 < w4.heap.size := by omega
    have kn1 : ¬ w.heap.size + 1 = w4.heap.size := by omega
    have km1 : ¬ w4.heap.size = w.heap.size + 1 := by omega
    have kl2 : w1.heap.size < w4.heap.size := by omega
    have kn2 : ¬ w1.heap.size = w4.heap.size := by omega
    have km2 : ¬ w4.heap.size = w1.heap.size := by omega
    have kl3 : w2.heap.size < w4.heap.size := by omega
    have kn3 : ¬ w2.heap.size = w4.heap.size := by omega
    have km3 : ¬ w4.heap.size = w2.heap.size := by omega
    have kl4 : w3.heap.size < w4.heap.size := by omega
    have kn4 : ¬ w3.heap.size = w4.heap.size := by omega
    have km4 : ¬ w4.heap.size = w3.heap.size := by omega
    have HB := Lib.hid (show Below w.heap.size w w4 from by exact HB.out.trans ((show Below _ _ _ from ((Below.refl _ _).alloc (by omega) _)).trans (hb.mono (by first | omega | (simp <;> omega)))))
    have HR := Lib.hid ((show Room _ (w.heap.size + 1) 4 from (HR.out.alloc (by omega) _)).below hb (by first | omega | (simp <;> omega)))
    clear ho hb
    go_wp2_with fail
    refine (spadd_fr _ _ _).mono ?_
    rintro e w5 ho
    obtain ⟨rfl, hb⟩ := ho.fn
    have kc0 := fun o => hb.cell (p := ⟨w.heap.size, o, none⟩) (by show w.heap.size < _; first | omega | (simp <;> omega))
    have kc1 := fun o => hb.cell (p := ⟨w.heap.size + 1, o, none⟩) (by show w.heap.size + 1 < _; first | omega | (simp <;> omega))
    have kc2 := fun o => hb.cell (p := ⟨w1.heap.size, o, none⟩) (by show w1.heap.size < _; first | omega | (simp <;> omega))
    have kc3 := fun o => hb.cell (p := ⟨w2.heap.size, o, none⟩) (by show w2.heap.size < _; first | omega | (simp <;> omega))
    have kc4 := fun o => hb.cell (p := ⟨w3.heap.size, o, none⟩) (by show w3.heap.size < _; first | omega | (simp <;> omega))
    have kc5 := fun o => hb.cell (p := ⟨w4.heap.size, o, none⟩) (by show w4.heap.size < _; first | omega | (simp <;> omega))
    have kf0 := fun o => hb.frozen (p := ⟨w.heap.size + 1, o, none⟩) (by show w.heap.size + 1 < _; first | omega | (simp <;> omega))
    have hz := hb.size
    (try simp at hz)
    have kl0 : w.heap.size < w5.heap.size := by omega
    have kn0 : ¬ w.heap.size = w5.heap.size := by omega
    have km0 : ¬ w5.heap.size = w.heap.size := by omega
    have kl1 : w.heap.size + 1 < w5.heap.size := by omega
    have kn1 : ¬ w.heap.size + 1 = w5.heap.size := by omega
    have km1 : ¬ w5.heap.size = w.heap.size + 1 := by omega
    have kl2 : w1.heap.size < w5.heap.size := by omega
    have kn2 : ¬ w1.heap.size = w5.heap.size := by omega
    have km2 : ¬ w5.heap.size = w1.heap.size := by omega
    have kl3 : w2.heap.size < w5.heap.size := by omega
    have kn3 : ¬ w2.heap.size = w5.heap.size := by omega
    have km3 : ¬ w5.heap.size = w2.heap.size := by omega
    have kl4 : w3.heap.size < w5.heap.size := by omega
    have kn4 : ¬ w3.heap.size = w5.heap.size := by omega
    have km4 : ¬ w5.heap.size = w3.heap.size := by omega
    have kl5 : w4.heap.size < w5.heap.size := by omega
    have kn5 : ¬ w4.heap.size = w5.heap.size := by omega
    have km5 : ¬ w5.heap.size = w4.heap.size := by omega
    have HB := Lib.hid (show Below w.heap.size w w5 from by exact HB.out.trans ((show Below _ _ _ from ((Below.refl _ _).alloc (by omega) _)).trans (hb.mono (by first | omega | (simp <;> omega)))))
    have HR := Lib.hid ((show Room _ (w.heap.size + 1) 4 from (HR.out.alloc (by omega) _)).below hb (by first | omega | (simp <;> omega)))
    clear ho hb
    go_wp2_with fail
    refine (spless_fr _ _ _).mono ?_
    rintro e w6 ho
    obtain ⟨rfl, hb⟩ := ho.fn
    have kc0 := fun o => hb.cell (p := ⟨w.heap.size, o, none⟩) (by show w.heap.size < _; first | omega | (simp <;> omega))
    have kc1 := fun o => hb.cell (p := ⟨w.heap.size + 1, o, none⟩) (by show w.heap.size + 1 < _; first | omega | (simp <;> omega))
    have kc2 := fun o => hb.cell (p := ⟨w1.heap.size, o, none⟩) (by show w1.heap.size < _; first | omega | (simp <;> omega))
    have kc3 := fun o => hb.cell (p := ⟨w2.heap.size, o, none⟩) (by show w2.heap.size < _; first | omega | (simp <;> omega))
    have kc4 := fun o => hb.cell (p := ⟨w3.heap.size, o, none⟩) (by show w3.heap.size < _; first | omega | (simp <;> omega))
    have kc5 := fun o => hb.cell (p := ⟨w4.heap.size, o, none⟩) (by show w4.heap.size < _; first | omega | (simp <;> omega))
    have kc6 := fun o => hb.cell (p := ⟨w5.heap.size, o, none⟩) (by show w5.heap.size < _; first | omega | (simp <;> omega))
    have kf0 := fun o => hb.frozen (p := ⟨w.heap.size + 1, o, none⟩) (by show w.heap.size + 1 < _; first | omega | (simp <;> omega))
    have hz := hb.size
    (try simp at hz)
    have kl0 : w.heap.size < w6.heap.size := by omega
    have kn0 : ¬ w.heap.size = w6.heap.size := by omega
    have km0 : ¬ w6.heap.size = w.heap.size := by omega
    have kl1 : w.heap.size + 1 < w6.heap.size := by omega
    have kn1 : ¬ w.heap.size + 1 = w6.heap.size := by omega
    have km1 : ¬ w6.heap.size = w.heap.size + 1 := by omega
    have kl2 : w1.heap.size < w6.heap.size := by omega
    have kn2 : ¬ w1.heap.size = w6.heap.size := by omega
    have km2 : ¬ w6.heap.size = w1.heap.size := by omega
    have kl3 : w2.heap.size < w6.heap.size := by omega
    have kn3 : ¬ w2.heap.size = w6.heap.size := by omega
    have km3 : ¬ w6.heap.size = w2.heap.size := by omega
    have kl4 : w3.heap.size < w6.heap.size := by omega
    have kn4 : ¬ w3.heap.size = w6.heap.size := by omega
    have km4 : ¬ w6.heap.size = w3.heap.size := by omega
    have kl5 : w4.heap.size < w6.heap.size := by omega
    have kn5 : ¬ w4.heap.size = w6.heap.size := by omega
    have km5 : ¬ w6.heap.size = w4.heap.size := by omega
    have kl6 : w5.heap.size < w6.heap.size := by omega
    have kn6 : ¬ w5.heap.size = w6.heap.size := by omega
    have km6 : ¬ w6.heap.size = w5.heap.size := by omega
    have HB := Lib.hid (show Below w.heap.size w w6 from by exact HB.out.trans ((show Below _ _ _ from ((Below.refl _ _).alloc (by omega) _)).trans (hb.mono (by first | omega | (simp <;> omega)))))
    have HR := Lib.hid ((show Room _ (w.heap.size + 1) 4 from (HR.out.alloc (by omega) _)).below hb (by first | omega | (simp <;> omega)))
    clear ho hb
    go_wp2
    refine bodyPost_ret (v := .tuple #[.agg #[.int .i64 0, .int .i64 0, .int .i64 0, .int .i64 0, .int .i64 0, .int .i64 0, .int .i64 0, .int .i64 0, .int .i64 0, .int .i64 0, .int .i64 0, .int .i64 0], .bool false]) ?_ rfl (M4Out.no HG.out ?_)
    · exact Eq.trans (results_cell_mid2 Tryd.results126 _ _ (w.heap.size + 1) [.int .i64 0, .int .i64 0, .int .i64 0, .int .i64 0, .int .i64 0, .int .i64 0, .int .i64 0, .int .i64 0, .int .i64 0, .int .i64 0, .int .i64 0, .int .i64 0] _ (by rfl) (by ((repeat' first | (with_reducible refine World.rangeAt_setCells_same _ (w.heap.size + 1) 0 [.int .i64 0, .int .i64 0, .int .i64 0, .int .i64 0, .int .i64 0, .int .i64 0, .int .i64 0, .int .i64 0, .int .i64 0, .int .i64 0, .int .i64 0, .int .i64 0] ?_) | (with_reducible refine World.rangeAt_alloc ?_ _) | (with_reducible refine (World.rangeAt_drew _ _ _ _).2 ?_)); first | exact HR.out.there | (have hh := fun W h => World.rangeAt_setCells_same W (w.heap.size + 1) 0 [.int .i64 0, .int .i64 0, .int .i64 0, .int .i64 0, .int .i64 0, .int .i64 0, .int .i64 0, .int .i64 0, .int .i64 0, .int .i64 0, .int .i64 0, .int .i64 0] h; simp only [World.setCells, Nat.zero_add, Nat.reduceAdd] at hh; exact hh _ HR.out.there))) Tryd.underlying51 rfl (by kernel_rfl)) rfl
    · (repeat' first | (with_reducible exact HB.out) | with_reducible refine setCells_below _ _ _ ?_ (by first | omega | (simp <;> omega)) | with_reducible refine Below.setCell ?_ (by show _ ≤ _; first | omega | (simp <;> omega) | simp) _ | with_reducible refine Below.alloc ?_ (by first | omega | (simp <;> omega)) _ | with_reducible apply Below.drew)
  cases h6 : (fLess (fPower a.x).1 (fPower a.y).1).2
  · have HG : Hid ((sOf a) = (m4z, false)) := by show _ = _; simp [sOf, h1, h2, h3, h4, h5, h6]
    go_enter Tryd.func126, Tryd.ntmps126
    go_wp2_with fail
    refine (sppower_fr a.x _).mono ?_
    rintro e w1 ho
    obtain ⟨rfl, hb⟩ := ho.fn
    have kc0 := fun o => hb.cell (p := ⟨w.heap.size, o, none⟩) (by show w.heap.size < _; first | omega | (simp <;> omega))
    have kc1 := fun o => hb.cell (p := ⟨w.heap.size + 1, o, none⟩) (by show w.heap.size + 1 < _; first | omega | (simp <;> omega))
    have kf0 := fun o => hb.frozen (p := ⟨w.heap.size + 1, o, none⟩) (by show w.heap.size + 1 < _; first | omega | (simp <;> omega))
    have hz := hb.size
    (try simp at hz)
    have kl0 : w.heap.size < w1.heap.size := by omega
    have kn0 : ¬ w.heap.size = w1.heap.size := by omega
    have km0 : ¬ w1.heap.size = w.heap.size := by omega
    have kl1 : w.heap.size + 1 < w1.heap.size := by omega
    have kn1 : ¬ w.heap.size + 1 = w1.heap.size := by omega
    have km1 : ¬ w1.heap.size = w.heap.size + 1 := by omega
    have HB := Lib.hid (show Below w.heap.size w w1 from by (repeat' first | exact Below.refl _ _ | apply bl_alloc | apply bl_drewN | apply bl_drew | refine bl_trans ?_ (by assumption) | refine bl_set ?_ (by first | omega | (simp <;> omega)) _))
    have HR := Lib.hid ((show Room _ (w.heap.size + 1) 4 from (Room.new' (by simp) rfl)).below hb (by first | omega | (simp <;> omega)))
    clear ho hb
    go_wp2_with fail
    refine (sppower_fr a.y _).mono ?_
    rintro e w2 ho
    obtain ⟨rfl, hb⟩ := ho.fn
    have kc0 := fun o => hb.cell (p := ⟨w.heap.size, o, none⟩) (by show w.heap.size < _; first | omega | (simp <;> omega))
    have kc1 := fun o => hb.cell (p := ⟨w.heap.size + 1, o, none⟩) (by show w.heap.size + 1 < _; first | omega | (simp <;> omega))
    have kc2 := fun o => hb.cell (p := ⟨w1.heap.size, o, none⟩) (by show w1.heap.size < _; first | omega | (simp <;> omega))
    have kf0 := fun o => hb.frozen (p := ⟨w.heap.size + 1, o, none⟩) (by show w.heap.size + 1 < _; first | omega | (simp <;> omega))
    have hz := hb.size
    (try simp at hz)
    have kl0 : w.heap.size < w2.heap.size := by omega
    have kn0 : ¬ w.heap.size = w2.heap.size := by omega
    have km0 : ¬ w2.heap.size = w.heap.size := by omega
    have kl1 : w.heap.size + 1 < w2.heap.size := by omega
    have kn1 : ¬ w.heap.size + 1 = w2.heap.size := by omega
    have km1 : ¬ w2.heap.size = w.heap.size + 1 := by omega
    have kl2 : w1.heap.size < w2.heap.size := by omega
    have kn2 : ¬ w1.heap.size = w2.heap.size := by omega
    have km2 : ¬ w2.heap.size = w1.heap.size := by omega
    have HB := Lib.hid (show Below w.heap.size w w2 from by exact HB.out.trans ((show Below _ _ _ from ((Below.refl _ _).alloc (by omega) _)).trans (hb.mono (by first | omega | (simp <;> omega)))))
    have HR := Lib.hid ((show Room _ (w.heap.size + 1) 4 from (HR.out.alloc (by omega) _)).below hb (by first | omega | (simp <;> omega)))
    clear ho hb
    go_wp2_with fail
    refine (spmirror_fr a.y _).mono ?_
    rintro e w3 ho
    obtain ⟨rfl, hb⟩ := ho.fn
    have kc0 := fun o => hb.cell (p := ⟨w.heap.size, o, none⟩) (by show w.heap.size < _; first | omega | (simp <;> omega))
    have kc1 := fun o => hb.cell (p := ⟨w.heap.size + 1, o, none⟩) (by show w.heap.size + 1 < _; first | omega | (simp <;> omega))
    have kc2 := fun o => hb.cell (p := ⟨w1.heap.size, o, none⟩) (by show w1.heap.size < _; first | omega | (simp <;> omega))
    have kc3 := fun o => hb.cell (p := ⟨w2.heap.size, o, none⟩) (by show w2.heap.size < _; first | omega | (simp <;> omega))
    have kf0 := fun o => hb.frozen (p := ⟨w.heap.size + 1, o, none⟩) (by show w.heap.size + 1 < _; first | omega | (simp <;> omega))
    have hz := hb.size
    (try simp at hz)
    have kl0 : w.heap.size < w3.heap.size := by omega
    have kn0 : ¬ w.heap.size = w3.heap.size := by omega
    have km0 : ¬ w3.heap.size = w.heap.size := by omega
    have kl1 : w.heap.size + 1 < w3.heap.size := by omega
    have kn1 : ¬ w.heap.size + 1 = w3.heap.size := by omega
    have km1 : ¬ w3.heap.size = w.heap.size + 1 := by omega
    have kl2 : w1.heap.size < w3.heap.size := by omega
    have kn2 : ¬ w1.heap.size = w3.heap.size := by omega
    have km2 : ¬ w3.heap.size = w1.heap.size := by omega
    have kl3 : w2.heap.size < w3.heap.size := by omega
    have kn3 : ¬ w2.heap.size = w3.heap.size := by omega
    have km3 : ¬ w3.heap.size = w2.heap.size := by omega
    have HB := Lib.hid (show Below w.heap.size w w3 from by exact HB.out.trans ((show Below _ _ _ from ((Below.refl _ _).alloc (by omega) _)).trans (hb.mono (by first | omega | (simp <;> omega)))))
    have HR := Lib.hid ((show Room _ (w.heap.size + 1) 4 from (HR.out.alloc (by omega) _)).below hb (by first | omega | (simp <;> omega)))
    clear ho hb
    go_wp2_with fail
    refine (sptimes_fr a.x (fMirror a.y).1 _).mono ?_
    rintro e w4 ho
    obtain ⟨rfl, hb⟩ := ho.fn
    have kc0 := fun o => hb.cell (p := ⟨w.heap.size, o, none⟩) (by show w.heap.size < _; first | omega | (simp <;> omega))
    have kc1 := fun o => hb.cell (p := ⟨w.heap.size + 1, o, none⟩) (by show w.heap.size + 1 < _; first | omega | (simp <;> omega))
    have kc2 := fun o => hb.cell (p := ⟨w1.heap.size, o, none⟩) (by show w1.heap.size < _; first | omega | (simp <;> omega))
    have kc3 := fun o => hb.cell (p := ⟨w2.heap.size, o, none⟩) (by show w2.heap.size < _; first | omega | (simp <;> omega))
    have kc4 := fun o => hb.cell (p := ⟨w3.heap.size, o, none⟩) (by show w3.heap.size < _; first | omega | (simp <;> omega))
    have kf0 := fun o => hb.frozen (p := ⟨w.heap.size + 1, o, none⟩) (by show w.heap.size + 1 < _; first | omega | (simp <;> omega))
    have hz := hb.size
    (try simp at hz)
    have kl0 : w.heap.size < w4.heap.size := by omega
    have kn0 : ¬ w.heap.size = w4.heap.size := by omega
    have km0 : ¬ w4.heap.size = w.heap.size := by omega
    have kl1 : w.heap.size + 1 < w4.heap.size := by omega
    have kn1 : ¬ w.heap.size + 1 = w4.heap.size := by omega
    have km1 : ¬ w4.heap.size = w.heap.size + 1 := by omega
    have kl2 : w1.heap.size < w4.heap.size := by omega
    have kn2 : ¬ w1.heap.size = w4.heap.size := by omega
    have km2 : ¬ w4.heap.size = w1.heap.size := by omega
    have kl3 : w2.heap.size < w4.heap.size := by omega
    have kn3 : ¬ w2.heap.size = w4.heap.size := by omega
    have km3 : ¬ w4.heap.size = w2.heap.size := by omega
    have kl4 : w3.heap.size < w4.heap.size := by omega
    have kn4 : ¬ w3.heap.size = w4.heap.size := by omega
    have km4 : ¬ w4.heap.size = w3.heap.size := by omega
    have HB := Lib.hid (show Below w.heap.size w w4 from by exact HB.out.trans ((show Below _ _ _ from ((Below.refl _ _).alloc (by omega) _)).trans (hb.mono (by first | omega | (simp <;> omega)))))
    have HR := Lib.hid ((show Room _ (w.heap.size + 1) 4 from (HR.out.alloc (by omega) _)).below hb (by first | omega | (simp <;> omega)))
    clear ho hb
    go_wp2_with fail
    refine (spadd_fr _ _ _).mono ?_
    rintro e w5 ho
    obtain ⟨rfl, hb⟩ := ho.fn
    have kc0 := fun o => hb.cell (p := ⟨w.heap.size, o, none⟩) (by show w.heap.size < _; first | omega | (simp <;> omega))
    have kc1 := fun o => hb.cell (p := ⟨w.heap.size + 1, o, none⟩) (by show w.heap.size + 1 < _; first | omega | (simp <;> omega))
    have kc2 := fun o => hb.cell (p := ⟨w1.heap.size, o, none⟩) (by show w1.heap.size < _; first | omega | (simp <;> omega))
    have kc3 := fun o => hb.cell (p := ⟨w2.heap.size, o, none⟩) (by show w2.heap.size < _; first | omega | (simp <;> omega))
    have kc4 := fun o => hb.cell (p := ⟨w3.heap.size, o, none⟩) (by show w3.heap.size < _; first | omega | (simp <;> omega))
    have kc5 := fun o => hb.cell (p := ⟨w4.heap.size, o, none⟩) (by show w4.heap.size < _; first | omega | (simp <;> omega))
    have kf0 := fun o => hb.frozen (p := ⟨w.heap.size + 1, o, none⟩) (by show w.heap.size + 1 < _; first | omega | (simp <;> omega))
    have hz := hb.size
    (try simp at hz)
    have kl0 : w.heap.size < w5.heap.size := by omega
    have kn0 : ¬ w.heap.size = w5.heap.size := by omega
    have km0 : ¬ w5.heap.size = w.heap.size := by omega
    have kl1 : w.heap.size + 1 < w5.heap.size := by omega
    have kn1 : ¬ w.heap.size + 1 = w5.heap.size := by omega
    have km1 : ¬ w5.heap.size = w.heap.size + 1 := by omega
    have kl2 : w1.heap.size < w5.heap.size := by omega
    have kn2 : ¬ w1.heap.size = w5.heap.size := by omega
    have km2 : ¬ w5.heap.size = w1.heap.size := by omega
    have kl3 : w2.heap.size < w5.heap.size := by omega
    have kn3 : ¬ w2.heap.size = w5.heap.size := by omega
    have km3 : ¬ w5.heap.size = w2.heap.size := by omega
    have kl4 : w3.heap.size < w5.heap.size := by omega
    have kn4 : ¬ w3.heap.size = w5.heap.size := by omega
    have km4 : ¬ w5.heap.size = w3.heap.size := by omega
    have kl5 : w4.heap.size < w5.heap.size := by omega
    have kn5 : ¬ w4.heap.size = w5.heap.size := by omega
    have km5 : ¬ w5.heap.size = w4.heap.size := by omega
    have HB := Lib.hid (show Below w.heap.size w w5 from by exact HB.out.trans ((show Below _ _ _ from ((Below.refl _ _).alloc (by omega) _)).trans (hb.mono (by first | omega | (simp <;> omega)))))
    have HR := Lib.hid ((show Room _ (w.heap.size + 1) 4 from (HR.out.alloc (by omega) _)).below hb (by first | omega | (simp <;> omega)))
    clear ho hb
    go_wp2_with fail
    refine (spless_fr _ _ _).mono ?_
    rintro e w6 ho
    obtain ⟨rfl, hb⟩ := ho.fn
    have kc0 := fun o => hb.cell (p := ⟨w.heap.size, o, none⟩) (by show w.heap.size < _; first | omega | (simp <;> omega))
    have kc1 := fun o => hb.cell (p := ⟨w.heap.size + 1, o, none⟩) (by show w.heap.size + 1 < _; first | omega | (simp <;> omega))
    have kc2 := fun o => hb.cell (p := ⟨w1.heap.size, o, none⟩) (by show w1.heap.size < _; first | omega | (simp <;> omega))
    have kc3 := fun o => hb.cell (p := ⟨w2.heap.size, o, none⟩) (by show w2.heap.size < _; first | omega | (simp <;> omega))
    have kc4 := fun o => hb.cell (p := ⟨w3.heap.size, o, none⟩) (by show w3.heap.size < _; first | omega | (simp <;> omega))
    have kc5 := fun o => hb.cell (p := ⟨w4.heap.size, o, none⟩) (by show w4.heap.size < _; first | omega | (simp <;> omega))
    have kc6 := fun o => hb.cell (p := ⟨w5.heap.size, o, none⟩) (by show w5.heap.size < _; first | omega | (simp <;> omega))
    have kf0 := fun o => hb.frozen (p := ⟨w.heap.size + 1, o, none⟩) (by show w.heap.size + 1 < _; first | omega | (simp <;> omega))
    have hz := hb.size
    (try simp at hz)
    have kl0 : w.heap.size < w6.heap.size := by omega
    have kn0 : ¬ w.heap.size = w6.heap.size := by omega
    have km0 : ¬ w6.heap.size = w.heap.size := by omega
    have kl1 : w.heap.size + 1 < w6.heap.size := by omega
    have kn1 : ¬ w.heap.size + 1 = w6.heap.size := by omega
    have km1 : ¬ w6.heap.size = w.heap.size + 1 := by omega
    have kl2 : w1.heap.size < w6.heap.size := by omega
    have kn2 : ¬ w1.heap.size = w6.heap.size := by omega
    have km2 : ¬ w6.heap.size = w1.heap.size := by omega
    have kl3 : w2.heap.size < w6.heap.size := by omega
    have kn3 : ¬ w2.heap.size = w6.heap.size := by omega
    have km3 : ¬ w6.heap.size = w2.heap.size := by omega
    have kl4 : w3.heap.size < w6.heap.size := by omega
    have kn4 : ¬ w3.heap.size = w6.heap.size := by omega
    have km4 : ¬ w6.heap.size = w3.heap.size := by omega
    have kl5 : w4.heap.size < w6.heap.size := by omega
    have kn5 : ¬ w4.heap.size = w6.heap.size := by omega
    have km5 : ¬ w6.heap.size = w4.heap.size := by omega
    have kl6 : w5.heap.size < w6.heap.size := by omega
    have kn6 : ¬ w5.heap.size = w6.heap.size := by omega
    have km6 : ¬ w6.heap.size = w5.heap.size := by omega
    have HB := Lib.hid (show Below w.heap.size w w6 from by exact HB.out.trans ((show Below _ _ _ from ((Below.refl _ _).alloc (by omega) _)).trans (hb.mono (by first | omega | (simp <;> omega)))))
    have HR := Lib.hid ((show Room _ (w.heap.size + 1) 4 from (HR.out.alloc (by omega) _)).below hb (by first | omega | (simp <;> omega)))
    clear ho hb
    go_wp2
    refine bodyPost_ret (v := .tuple #[.agg #[.int .i64 0, .int .i64 0, .int .i64 0, .int .i64 0, .int .i64 0, .int .i64 0, .int .i64 0, .int .i64 0, .int .i64 0, .int .i64 0, .int .i64 0, .int .i64 0], .bool false]) ?_ rfl (M4Out.no HG.out ?_)
    · exact Eq.trans (results_cell_mid2 Tryd.results126 _ _ (w.heap.size + 1) [.int .i64 0, .int .i64 0, .int .i64 0, .int .i64 0, .int .i64 0, .int .i64 0, .int .i64 0, .int .i64 0, .int .i64 0, .int .i64 0, .int .i64 0, .int .i64 0] _ (by rfl) (by ((repeat' first | (with_reducible refine World.rangeAt_setCells_same _ (w.heap.size + 1) 0 [.int .i64 0, .int .i64 0, .int .i64 0, .int .i64 0, .int .i64 0, .int .i64 0, .int .i64 0, .int .i64 0, .int .i64 0, .int .i64 0, .int .i64 0, .int .i64 0] ?_) | (with_reducible refine World.rangeAt_alloc ?_ _) | (with_reducible refine (World.rangeAt_drew _ _ _ _).2 ?_)); first | exact HR.out.there | (have hh := fun W h => World.rangeAt_setCells_same W (w.heap.size + 1) 0 [.int .i64 0, .int .i64 0, .int .i64 0, .int .i64 0, .int .i64 0, .int .i64 0, .int .i64 0, .int .i64 0, .int .i64 0, .int .i64 0, .int .i64 0, .int .i64 0] h; simp only [World.setCells, Nat.zero_add, Nat.reduceAdd] at hh; exact hh _ HR.out.there))) Tryd.underlying51 rfl (by kernel_rfl)) rfl
    · (repeat' first | (with_reducible exact HB.out) | with_reducible refine setCells_below _ _ _ ?_ (by first | omega | (simp <;> omega)) | with_reducible refine Below.setCell ?_ (by show _ ≤ _; first | omega | (simp <;> omega) | simp) _ | with_reducible refine Below.alloc ?_ (by first | omega | (simp <;> omega)) _ | with_reducible apply Below.drew)
  cases h7 : (low (2 * (fTimes a.x (fMirror a.y).1).1.re) 0 (fTimes a.x (fMirror a.y).1).1.den).2
  · have HG : Hid ((sOf a) = (m4z, false)) := by show _ = _; simp [sOf, h1, h2, h3, h4, h5, h6, h7]
    go_enter Tryd.func126, Tryd.ntmps126
    go_wp2_with fail
    refine (sppower_fr a.x _).mono ?_
    rintro e w1 ho
    obtain ⟨rfl, hb⟩ := ho.fn
    have kc0 := fun o => hb.cell (p := ⟨w.heap.size, o, none⟩) (by show w.heap.size < _; first | omega | (simp <;> omega))
    have kc1 := fun o => hb.cell (p := ⟨w.heap.size + 1, o, none⟩) (by show w.heap.size + 1 < _; first | omega | (simp <;> omega))
    have kf0 := fun o => hb.frozen (p := ⟨w.heap.size + 1, o, none⟩) (by show w.heap.size + 1 < _; first | omega | (simp <;> omega))
    have hz := hb.size
    (try simp at hz)
    have kl0 : w.heap.size < w1.heap.size := by omega
    have kn0 : ¬ w.heap.size = w1.heap.size := by omega
    have km0 : ¬ w1.heap.size = w.heap.size := by omega
    have kl1 : w.heap.size + 1 < w1.heap.size := by omega
    have kn1 : ¬ w.heap.size + 1 = w1.heap.size := by omega
    have km1 : ¬ w1.heap.size = w.heap.size + 1 := by omega
    have HB := Lib.hid (show Below w.heap.size w w1 from by (repeat' first | exact Below.refl _ _ | apply bl_alloc | apply bl_drewN | apply bl_drew | refine bl_trans ?_ (by assumption) | refine bl_set ?_ (by first | omega | (simp <;> omega)) _))
    have HR := Lib.hid ((show Room _ (w.heap.size + 1) 4 from (Room.new' (by simp) rfl)).below hb (by first | omega | (simp <;> omega)))
    clear ho hb
    go_wp2_with fail
    refine (sppower_fr a.y _).mono ?_
    rintro e w2 ho
    obtain ⟨rfl, hb⟩ := ho.fn
    have kc0 := fun o => hb.cell (p := ⟨w.heap.size, o, none⟩) (by show w.heap.size < _; first | omega | (simp <;> omega))
    have kc1 := fun o => hb.cell (p := ⟨w.heap.size + 1, o, none⟩) (by show w.heap.size + 1 < _; first | omega | (simp <;> omega))
    have kc2 := fun o => hb.cell (p := ⟨w1.heap.size, o, none⟩) (by show w1.heap.size < _; first | omega | (simp <;> omega))
    have kf0 := fun o => hb.frozen (p := ⟨w.heap.size + 1, o, none⟩) (by show w.heap.size + 1 < _; first | omega | (simp <;> omega))
    have hz := hb.size
    (try simp at hz)
    have kl0 : w.heap.size < w2.heap.size := by omega
    have kn0 : ¬ w.heap.size = w2.heap.size := by omega
    have km0 : ¬ w2.heap.size = w.heap.size := by omega
    have kl1 : w.heap.size + 1 < w2.heap.size := by omega
    have kn1 : ¬ w.heap.size + 1 = w2.heap.size := by omega
    have km1 : ¬ w2.heap.size = w.heap.size + 1 := by omega
    have kl2 : w1.heap.size < w2.heap.size := by omega
    have kn2 : ¬ w1.heap.size = w2.heap.size := by omega
    have km2 : ¬ w2.heap.size = w1.heap.size := by omega
    have HB := Lib.hid (show Below w.heap.size w w2 from by exact HB.out.trans ((show Below _ _ _ from ((Below.refl _ _).alloc (by omega) _)).trans (hb.mono (by first | omega | (simp <;> omega)))))
    have HR := Lib.hid ((show Room _ (w.heap.size + 1) 4 from (HR.out.alloc (by omega) _)).below hb (by first | omega | (simp <;> omega)))
    clear ho hb
    go_wp2_with fail
    refine (spmirror_fr a.y _).mono ?_
    rintro e w3 ho
    obtain ⟨rfl, hb⟩ := ho.fn
    have kc0 := fun o => hb.cell (p := ⟨w.heap.size, o, none⟩) (by show w.heap.size < _; first | omega | (simp <;> omega))
    have kc1 := fun o => hb.cell (p := ⟨w.heap.size + 1, o, none⟩) (by show w.heap.size + 1 < _; first | omega | (simp <;> omega))
    have kc2 := fun o => hb.cell (p := ⟨w1.heap.size, o, none⟩) (by show w1.heap.size < _; first | omega | (simp <;> omega))
    have kc3 := fun o => hb.cell (p := ⟨w2.heap.size, o, none⟩) (by show w2.heap.size < _; first | omega | (simp <;> omega))
    have kf0 := fun o => hb.frozen (p := ⟨w.heap.size + 1, o, none⟩) (by show w.heap.size + 1 < _; first | omega | (simp <;> omega))
    have hz := hb.size
    (try simp at hz)
    have kl0 : w.heap.size < w3.heap.size := by omega
    have kn0 : ¬ w.heap.size = w3.heap.size := by omega
    have km0 : ¬ w3.heap.size = w.heap.size := by omega
    have kl1 : w.heap.size + 1 < w3.heap.size := by omega
    have kn1 : ¬ w.heap.size + 1 = w3.heap.size := by omega
    have km1 : ¬ w3.heap.size = w.heap.size + 1 := by omega
    have kl2 : w1.heap.size < w3.heap.size := by omega
    have kn2 : ¬ w1.heap.size = w3.heap.size := by omega
    have km2 : ¬ w3.heap.size = w1.heap.size := by omega
    have kl3 : w2.heap.size < w3.heap.size := by omega
    have kn3 : ¬ w2.heap.size = w3.heap.size := by omega
    have km3 : ¬ w3.heap.size = w2.heap.size := by omega
    have HB := Lib.hid (show Below w.heap.size w w3 from by exact HB.out.trans ((show Below _ _ _ from ((Below.refl _ _).alloc (by omega) _)).trans (hb.mono (by first | omega | (simp <;> omega)))))
    have HR := Lib.hid ((show Room _ (w.heap.size + 1) 4 from (HR.out.alloc (by omega) _)).below hb (by first | omega | (simp <;> omega)))
    clear ho hb
    go_wp2_with fail
    refine (sptimes_fr a.x (fMirror a.y).1 _).mono ?_
    rintro e w4 ho
    obtain ⟨rfl, hb⟩ := ho.fn
    have kc0 := fun o => hb.cell (p := ⟨w.heap.size, o, none⟩) (by show w.heap.size < _; first | omega | (simp <;> omega))
    have kc1 := fun o => hb.cell (p := ⟨w.heap.size + 1, o, none⟩) (by show w.heap.size + 1 < _; first | omega | (simp <;> omega))
    have kc2 := fun o => hb.cell (p := ⟨w1.heap.size, o, none⟩) (by show w1.heap.size < _; first | omega | (simp <;> omega))
    have kc3 := fun o => hb.cell (p := ⟨w2.heap.size, o, none⟩) (by show w2.heap.size < _; first | omega | (simp <;> omega))
    have kc4 := fun o => hb.cell (p := ⟨w3.heap.size, o, none⟩) (by show w3.heap.size < _; first | omega | (simp <;> omega))
    have kf0 := fun o => hb.frozen (p := ⟨w.heap.size + 1, o, none⟩) (by show w.heap.size + 1 < _; first | omega | (simp <;> omega))
    have hz := hb.size
    (try simp at hz)
    have kl0 : w.heap.size < w4.heap.size := by omega
    have kn0 : ¬ w.heap.size = w4.heap.size := by omega
    have km0 : ¬ w4.heap.size = w.heap.size := by omega
    have kl1 : w.heap.size + 1 < w4.heap.size := by omega
    have kn1 : ¬ w.heap.size + 1 = w4.heap.size := by omega
    have km1 : ¬ w4.heap.size = w.heap.size + 1 := by omega
    have kl2 : w1.heap.size < w4.heap.size := by omega
    have kn2 : ¬ w1.heap.size = w4.heap.size := by omega
    have km2 : ¬ w4.heap.size = w1.heap.size := by omega
    have kl3 : w2.heap.size < w4.heap.size := by omega
    have kn3 : ¬ w2.heap.size = w4.heap.size := by omega
    have km3 : ¬ w4.heap.size = w2.heap.size := by omega
    have kl4 : w3.heap.size < w4.heap.size := by omega
    have kn4 : ¬ w3.heap.size = w4.heap.size := by omega
    have km4 : ¬ w4.heap.size = w3.heap.size := by omega
    have HB := Lib.hid (show Below w.heap.size w w4 from by exact HB.out.trans ((show Below _ _ _ from ((Below.refl _ _).alloc (by omega) _)).trans (hb.mono (by first | omega | (simp <;> omega)))))
    have HR := Lib.hid ((show Room _ (w.heap.size + 1) 4 from (HR.out.alloc (by omega) _)).below hb (by first | omega | (simp <;> omega)))
    clear ho hb
    go_wp2_with fail
    refine (spadd_fr _ _ _).mono ?_
    rintro e w5 ho
    obtain ⟨rfl, hb⟩ := ho.fn
    have kc0 := fun o => hb.cell (p := ⟨w.heap.size, o, none⟩) (by show w.heap.size < _; first | omega | (simp <;> omega))
    have kc1 := fun o => hb.cell (p := ⟨w.heap.size + 1, o, none⟩) (by show w.heap.size + 1 < _; first | omega | (simp <;> omega))
    have kc2 := fun o => hb.cell (p := ⟨w1.heap.size, o, none⟩) (by show w1.heap.size < _; first | omega | (simp <;> omega))
    have kc3 := fun o => hb.cell (p := ⟨w2.heap.size, o, none⟩) (by show w2.heap.size < _; first | omega | (simp <;> omega))
    have kc4 := fun o => hb.cell (p := ⟨w3.heap.size, o, none⟩) (by show w3.heap.size < _; first | omega | (simp <;> omega))
    have kc5 := fun o => hb.cell (p := ⟨w4.heap.size, o, none⟩) (by show w4.heap.size < _; first | omega | (simp <;> omega))
    have kf0 := fun o => hb.frozen (p := ⟨w.heap.size + 1, o, none⟩) (by show w.heap.size + 1 < _; first | omega | (simp <;> omega))
    have hz := hb.size
    (try simp at hz)
    have kl0 : w.heap.size < w5.heap.size := by omega
    have kn0 : ¬ w.heap.size = w5.heap.size := by omega
    have km0 : ¬ w5.heap.size = w.heap.size := by omega
    have kl1 : w.heap.size + 1 < w5.heap.size := by omega
    have kn1 : ¬ w.heap.size + 1 = w5.heap.size := by omega
    have km1 : ¬ w5.heap.size = w.heap.size + 1 := by omega
    have kl2 : w1.heap.size < w5.heap.size := by omega
    have kn2 : ¬ w1.heap.size = w5.heap.size := by omega
    have km2 : ¬ w5.heap.size = w1.heap.size := by omega
    have kl3 : w2.heap.size < w5.heap.size := by omega
    have kn3 : ¬ w2.heap.size = w5.heap.size := by omega
    have km3 : ¬ w5.heap.size = w2.heap.size := by omega
    have kl4 : w3.heap.size < w5.heap.size := by omega
    have kn4 : ¬ w3.heap.size = w5.heap.size := by omega
    have km4 : ¬ w5.heap.size = w3.heap.size := by omega
    have kl5 : w4.heap.size < w5.heap.size := by omega
    have kn5 : ¬ w4.heap.size = w5.heap.size := by omega
    have km5 : ¬ w5.heap.size = w4.heap.size := by omega
    have HB := Lib.hid (show Below w.heap.size w w5 from by exact HB.out.trans ((show Below _ _ _ from ((Below.refl _ _).alloc (by omega) _)).trans (hb.mono (by first | omega | (simp <;> omega)))))
    have HR := Lib.hid ((show Room _ (w.heap.size + 1) 4 from (HR.out.alloc (by omega) _)).below hb (by first | omega | (simp <;> omega)))
    clear ho hb
    go_wp2_with fail
    refine (spless_fr _ _ _).mono ?_
    rintro e w6 ho
    obtain ⟨rfl, hb⟩ := ho.fn
    have kc0 := fun o => hb.cell (p := ⟨w.heap.size, o, none⟩) (by show w.heap.size < _; first | omega | (simp <;> omega))
    have kc1 := fun o => hb.cell (p := ⟨w.heap.size + 1, o, none⟩) (by show w.heap.size + 1 < _; first | omega | (simp <;> omega))
    have kc2 := fun o => hb.cell (p := ⟨w1.heap.size, o, none⟩) (by show w1.heap.size < _; first | omega | (simp <;> omega))
    have kc3 := fun o => hb.cell (p := ⟨w2.heap.size, o, none⟩) (by show w2.heap.size < _; first | omega | (simp <;> omega))
    have kc4 := fun o => hb.cell (p := ⟨w3.heap.size, o, none⟩) (by show w3.heap.size < _; first | omega | (simp <;> omega))
    have kc5 := fun o => hb.cell (p := ⟨w4.heap.size, o, none⟩) (by show w4.heap.size < _; first | omega | (simp <;> omega))
    have kc6 := fun o => hb.cell (p := ⟨w5.heap.size, o, none⟩) (by show w5.heap.size < _; first | omega | (simp <;> omega))
    have kf0 := fun o => hb.frozen (p := ⟨w.heap.size + 1, o, none⟩) (by show w.heap.size + 1 < _; first | omega | (simp <;> omega))
    have hz := hb.size
    (try simp at hz)
    have kl0 : w.heap.size < w6.heap.size := by omega
    have kn0 : ¬ w.heap.size = w6.heap.size := by omega
    have km0 : ¬ w6.heap.size = w.heap.size := by omega
    have kl1 : w.heap.size + 1 < w6.heap.size := by omega
    have kn1 : ¬ w.heap.size + 1 = w6.heap.size := by omega
    have km1 : ¬ w6.heap.size = w.heap.size + 1 := by omega
    have kl2 : w1.heap.size < w6.heap.size := by omega
    have kn2 : ¬ w1.heap.size = w6.heap.size := by omega
    have km2 : ¬ w6.heap.size = w1.heap.size := by omega
    have kl3 : w2.heap.size < w6.heap.size := by omega
    have kn3 : ¬ w2.heap.size = w6.heap.size := by omega
    have km3 : ¬ w6.heap.size = w2.heap.size := by omega
    have kl4 : w3.heap.size < w6.heap.size := by omega
    have kn4 : ¬ w3.heap.size = w6.heap.size := by omega
    have km4 : ¬ w6.heap.size = w3.heap.size := by omega
    have kl5 : w4.heap.size < w6.heap.size := by omega
    have kn5 : ¬ w4.heap.size = w6.heap.size := by omega
    have km5 : ¬ w6.heap.size = w4.heap.size := by omega
    have kl6 : w5.heap.size < w6.heap.size := by omega
    have kn6 : ¬ w5.heap.size = w6.heap.size := by omega
    have km6 : ¬ w6.heap.size = w5.heap.size := by omega
    have HB := Lib.hid (show Below w.heap.size w w6 from by exact HB.out.trans ((show Below _ _ _ from ((Below.refl _ _).alloc (by omega) _)).trans (hb.mono (by first | omega | (simp <;> omega)))))
    have HR := Lib.hid ((show Room _ (w.heap.size + 1) 4 from (HR.out.alloc (by omega) _)).below hb (by first | omega | (simp <;> omega)))
    clear ho hb
    go_wp2_with fail
    refine (l4twice_any (fTimes a.x (fMirror a.y).1).1.re (fTimes a.x (fMirror a.y).1).1.den (fTimes_rng (fTimes_vld h4).2.2).1.1 (fTimes_rng (fTimes_vld h4).2.2).1.2 (fTimes_rng (fTimes_vld h4).2.2).2.2.1 (fTimes_rng (fTimes_vld h4).2.2).2.2.2 _).mono ?_
    rintro e w7 ho
    obtain ⟨rfl, hb⟩ := ho.fn
    have kc0 := fun o => hb.cell (p := ⟨w.heap.size, o, none⟩) (by show w.heap.size < _; first | omega | (simp <;> omega))
    have kc1 := fun o => hb.cell (p := ⟨w.heap.size + 1, o, none⟩) (by show w.heap.size + 1 < _; first | omega | (simp <;> omega))
    have kc2 := fun o => hb.cell (p := ⟨w1.heap.size, o, none⟩) (by show w1.heap.size < _; first | omega | (simp <;> omega))
    have kc3 := fun o => hb.cell (p := ⟨w2.heap.size, o, none⟩) (by show w2.heap.size < _; first | omega | (simp <;> omega))
    have kc4 := fun o => hb.cell (p := ⟨w3.heap.size, o, none⟩) (by show w3.heap.size < _; first | omega | (simp <;> omega))
    have kc5 := fun o => hb.cell (p := ⟨w4.heap.size, o, none⟩) (by show w4.heap.size < _; first | omega | (simp <;> omega))
    have kc6 := fun o => hb.cell (p := ⟨w5.heap.size, o, none⟩) (by show w5.heap.size < _; first | omega | (simp <;> omega))
    have kc7 := fun o => hb.cell (p := ⟨w6.heap.size, o, none⟩) (by show w6.heap.size < _; first | omega | (simp <;> omega))
    have kf0 := fun o => hb.frozen (p := ⟨w.heap.size + 1, o, none⟩) (by show w.heap.size + 1 < _; first | omega | (simp <;> omega))
    have hz := hb.size
    (try simp at hz)
    have kl0 : w.heap.size < w7.heap.size := by omega
    have kn0 : ¬ w.heap.size = w7.heap.size := by omega
    have km0 : ¬ w7.heap.size = w.heap.size := by omega
    have kl1 : w.heap.size + 1 < w7.heap.size := by omega
    have kn1 : ¬ w.heap.size + 1 = w7.heap.size := by omega
    have km1 : ¬ w7.heap.size = w.heap.size + 1 := by omega
    have kl2 : w1.heap.size < w7.heap.size := by omega
    have kn2 : ¬ w1.heap.size = w7.heap.size := by omega
    have km2 : ¬ w7.heap.size = w1.heap.size := by omega
    have kl3 : w2.heap.size < w7.heap.size := by omega
    have kn3 : ¬ w2.heap.size = w7.heap.size := by omega
    have km3 : ¬ w7.heap.size = w2.heap.size := by omega
    have kl4 : w3.heap.size < w7.heap.size := by omega
    have kn4 : ¬ w3.heap.size = w7.heap.size := by omega
    have km4 : ¬ w7.heap.size = w3.heap.size := by omega
    have kl5 : w4.heap.size < w7.heap.size := by omega
    have kn5 : ¬ w4.heap.size = w7.heap.size := by omega
    have km5 : ¬ w7.heap.size = w4.heap.size := by omega
    have kl6 : w5.heap.size < w7.heap.size := by omega
    have kn6 : ¬ w5.heap.size = w7.heap.size := by omega
    have km6 : ¬ w7.heap.size = w5.heap.size := by omega
    have kl7 : w6.heap.size < w7.heap.size := by omega
    have kn7 : ¬ w6.heap.size = w7.heap.size := by omega
    have km7 : ¬ w7.heap.size = w6.heap.size := by omega
    have HB := Lib.hid (show Below w.heap.size w w7 from by exact HB.out.trans ((show Below _ _ _ from ((Below.refl _ _).alloc (by omega) _)).trans (hb.mono (by first | omega | (simp <;> omega)))))
    have HR := Lib.hid ((show Room _ (w.heap.size + 1) 4 from (HR.out.alloc (by omega) _)).below hb (by first | omega | (simp <;> omega)))
    clear ho hb
    go_wp2_with fail
    refine (l4twice_any (fTimes a.x (fMirror a.y).1).1.im (fTimes a.x (fMirror a.y).1).1.den (fTimes_rng (fTimes_vld h4).2.2).2.1.1 (fTimes_rng (fTimes_vld h4).2.2).2.1.2 (fTimes_rng (fTimes_vld h4).2.2).2.2.1 (fTimes_rng (fTimes_vld h4).2.2).2.2.2 _).mono ?_
    rintro e w8 ho
    obtain ⟨rfl, hb⟩ := ho.fn
    have kc0 := fun o => hb.cell (p := ⟨w.heap.size, o, none⟩) (by show w.heap.size < _; first | omega | (simp <;> omega))
    have kc1 := fun o => hb.cell (p := ⟨w.heap.size + 1, o, none⟩) (by show w.heap.size + 1 < _; first | omega | (simp <;> omega))
    have kc2 := fun o => hb.cell (p := ⟨w1.heap.size, o, none⟩) (by show w1.heap.size < _; first | omega | (simp <;> omega))
    have kc3 := fun o => hb.cell (p := ⟨w2.heap.size, o, none⟩) (by show w2.heap.size < _; first | omega | (simp <;> omega))
    have kc4 := fun o => hb.cell (p := ⟨w3.heap.size, o, none⟩) (by show w3.heap.size < _; first | omega | (simp <;> omega))
    have kc5 := fun o => hb.cell (p := ⟨w4.heap.size, o, none⟩) (by show w4.heap.size < _; first | omega | (simp <;> omega))
    have kc6 := fun o => hb.cell (p := ⟨w5.heap.size, o, none⟩) (by show w5.heap.size < _; first | omega | (simp <;> omega))
    have kc7 := fun o => hb.cell (p := ⟨w6.heap.size, o, none⟩) (by show w6.heap.size < _; first | omega | (simp <;> omega))
    have kc8 := fun o => hb.cell (p := ⟨w7.heap.size, o, none⟩) (by show w7.heap.size < _; first | omega | (simp <;> omega))
    have kf0 := fun o => hb.frozen (p := ⟨w.heap.size + 1, o, none⟩) (by show w.heap.size + 1 < _; first | omega | (simp <;> omega))
    have hz := hb.size
    (try simp at hz)
    have kl0 : w.heap.size < w8.heap.size := by omega
    have kn0 : ¬ w.heap.size = w8.heap.size := by omega
    have km0 : ¬ w8.heap.size = w.heap.size := by omega
    have kl1 : w.heap.size + 1 < w8.heap.size := by omega
    have kn1 : ¬ w.heap.size + 1 = w8.heap.size := by omega
    have km1 : ¬ w8.heap.size = w.heap.size + 1 := by omega
    have kl2 : w1.heap.size < w8.heap.size := by omega
    have kn2 : ¬ w1.heap.size = w8.heap.size := by omega
    have km2 : ¬ w8.heap.size = w1.heap.size := by omega
    have kl3 : w2.heap.size < w8.heap.size := by omega
    have kn3 : ¬ w2.heap.size = w8.heap.size := by omega
    have km3 : ¬ w8.heap.size = w2.heap.size := by omega
    have kl4 : w3.heap.size < w8.heap.size := by omega
    have kn4 : ¬ w3.heap.size = w8.heap.size := by omega
    have km4 : ¬ w8.heap.size = w3.heap.size := by omega
    have kl5 : w4.heap.size < w8.heap.size := by omega
    have kn5 : ¬ w4.heap.size = w8.heap.size := by omega
    have km5 : ¬ w8.heap.size = w4.heap.size := by omega
    have kl6 : w5.heap.size < w8.heap.size := by omega
    have kn6 : ¬ w5.heap.size = w8.heap.size := by omega
    have km6 : ¬ w8.heap.size = w5.heap.size := by omega
    have kl7 : w6.heap.size < w8.heap.size := by omega
    have kn7 : ¬ w6.heap.size = w8.heap.size := by omega
    have km7 : ¬ w8.heap.size = w6.heap.size := by omega
    have kl8 : w7.heap.size < w8.heap.size := by omega
    have kn8 : ¬ w7.heap.size = w8.heap.size := by omega
    have km8 : ¬ w8.heap.size = w7.heap.size := by omega
    have HB := Lib.hid (show Below w.heap.size w w8 from by exact HB.out.trans ((show Below _ _ _ from ((Below.refl _ _).alloc (by omega) _)).trans (hb.mono (by first | omega | (simp <;> omega)))))
    have HR := Lib.hid ((show Room _ (w.heap.size + 1) 4 from (HR.out.alloc (by omega) _)).below hb (by first | omega | (simp <;> omega)))
    clear ho hb
    go_wp2
    refine bodyPost_ret (v := .tuple #[.agg #[.int .i64 0, .int .i64 0, .int .i64 0, .int .i64 0, .int .i64 0, .int .i64 0, .int .i64 0, .int .i64 0, .int .i64 0, .int .i64 0, .int .i64 0, .int .i64 0], .bool false]) ?_ rfl (M4Out.no HG.out ?_)
    · exact Eq.trans (results_cell_mid2 Tryd.results126 _ _ (w.heap.size + 1) [.int .i64 0, .int .i64 0, .int .i64 0, .int .i64 0, .int .i64 0, .int .i64 0, .int .i64 0, .int .i64 0, .int .i64 0, .int .i64 0, .int .i64 0, .int .i64 0] _ (by rfl) (by ((repeat' first | (with_reducible refine World.rangeAt_setCells_same _ (w.heap.size + 1) 0 [.int .i64 0, .int .i64 0, .int .i64 0, .int .i64 0, .int .i64 0, .int .i64 0, .int .i64 0, .int .i64 0, .int .i64 0, .int .i64 0, .int .i64 0, .int .i64 0] ?_) | (with_reducible refine World.rangeAt_alloc ?_ _) | (with_reducible refine (World.rangeAt_drew _ _ _ _).2 ?_)); first | exact HR.out.there | (have hh := fun W h => World.rangeAt_setCells_same W (w.heap.size + 1) 0 [.int .i64 0, .int .i64 0, .int .i64 0, .int .i64 0, .int .i64 0, .int .i64 0, .int .i64 0, .int .i64 0, .int .i64 0, .int .i64 0, .int .i64 0, .int .i64 0] h; simp only [World.setCells, Nat.zero_add, Nat.reduceAdd] at hh; exact hh _ HR.out.there))) Tryd.underlying51 rfl (by kernel_rfl)) rfl
    · (repeat' first | (with_reducible exact HB.out) | with_reducible refine setCells_below _ _ _ ?_ (by first | omega | (simp <;> omega)) | with_reducible refine Below.setCell ?_ (by show _ ≤ _; first | omega | (simp <;> omega) | simp) _ | with_reducible refine Below.alloc ?_ (by first | omega | (simp <;> omega)) _ | with_reducible apply Below.drew)
  cases h8 : (low (2 * (fTimes a.x (fMirror a.y).1).1.im) 0 (fTimes a.x (fMirror a.y).1).1.den).2
  · have HG : Hid ((sOf a) = (m4z, false)) := by show _ = _; simp [sOf, h1, h2, h3, h4, h5, h6, h7, h8]
    go_enter Tryd.func126, Tryd.ntmps126
    go_wp2_with fail
    refine (sppower_fr a.x _).mono ?_
    rintro e w1 ho
    obtain ⟨rfl, hb⟩ := ho.fn
    have kc0 := fun o => hb.cell (p := ⟨w.heap.size, o, none⟩) (by show w.heap.size < _; first | omega | (simp <;> omega))
    have kc1 := fun o => hb.cell (p := ⟨w.heap.size + 1, o, none⟩) (by show w.heap.size + 1 < _; first | omega | (simp <;> omega))
    have kf0 := fun o => hb.frozen (p := ⟨w.heap.size + 1, o, none⟩) (by show w.heap.size + 1 < _; first | omega | (simp <;> omega))
    have hz := hb.size
    (try simp at hz)
    have kl0 : w.heap.size < w1.heap.size := by omega
    have kn0 : ¬ w.heap.size = w1.heap.size := by omega
    have km0 : ¬ w1.heap.size = w.heap.size := by omega
    have kl1 : w.heap.size + 1 < w1.heap.size := by omega
    have kn1 : ¬ w.heap.size + 1 = w1.heap.size := by omega
    have km1 : ¬ w1.heap.size = w.heap.size + 1 := by omega
    have HB := Lib.hid (show Below w.heap.size w w1 from by (repeat' first | exact Below.refl _ _ | apply bl_alloc | apply bl_drewN | apply bl_drew | refine bl_trans ?_ (by assumption) | refine bl_set ?_ (by first | omega | (simp <;> omega)) _))
    have HR := Lib.hid ((show Room _ (w.heap.size + 1) 4 from (Room.new' (by simp) rfl)).below hb (by first | omega | (simp <;> omega)))
    clear ho hb
    go_wp2_with fail
    refine (sppower_fr a.y _).mono ?_
    rintro e w2 ho
    obtain ⟨rfl, hb⟩ := ho.fn
    have kc0 := fun o => hb.cell (p := ⟨w.heap.size, o, none⟩) (by show w.heap.size < _; first | omega | (simp <;> omega))
    have kc1 := fun o => hb.cell (p := ⟨w.heap.size + 1, o, none⟩) (by show w.heap.size + 1 < _; first | omega | (simp <;> omega))
    have kc2 := fun o => hb.cell (p := ⟨w1.heap.size, o, none⟩) (by show w1.heap.size < _; first | omega | (simp <;> omega))
    have kf0 := fun o => hb.frozen (p := ⟨w.heap.size + 1, o, none⟩) (by show w.heap.size + 1 < _; first | omega | (simp <;> omega))
    have hz := hb.size
    (try simp at hz)
    have kl0 : w.heap.size < w2.heap.size := by omega
    have kn0 : ¬ w.heap.size = w2.heap.size := by omega
    have km0 : ¬ w2.heap.size = w.heap.size := by omega
    have kl1 : w.heap.size + 1 < w2.heap.size := by omega
    have kn1 : ¬ w.heap.size + 1 = w2.heap.size := by omega
    have km1 : ¬ w2.heap.size = w.heap.size + 1 := by omega
    have kl2 : w1.heap.size < w2.heap.size := by omega
    have kn2 : ¬ w1.heap.size = w2.heap.size := by omega
    have km2 : ¬ w2.heap.size = w1.heap.size := by omega
    have HB := Lib.hid (show Below w.heap.size w w2 from by exact HB.out.trans ((show Below _ _ _ from ((Below.refl _ _).alloc (by omega) _)).trans (hb.mono (by first | omega | (simp <;> omega)))))
    have HR := Lib.hid ((show Room _ (w.heap.size + 1) 4 from (HR.out.alloc (by omega) _)).below hb (by first | omega | (simp <;> omega)))
    clear ho hb
    go_wp2_with fail
    refine (spmirror_fr a.y _).mono ?_
    rintro e w3 ho
    obtain ⟨rfl, hb⟩ := ho.fn
    have kc0 := fun o => hb.cell (p := ⟨w.heap.size, o, none⟩) (by show w.heap.size < _; first | omega | (simp <;> omega))
    have kc1 := fun o => hb.cell (p := ⟨w.heap.size + 1, o, none⟩) (by show w.heap.size + 1 < _; first | omega | (simp <;> omega))
    have kc2 := fun o => hb.cell (p := ⟨w1.heap.size, o, none⟩) (by show w1.heap.size < _; first | omega | (simp <;> omega))
    have kc3 := fun o => hb.cell (p := ⟨w2.heap.size, o, none⟩) (by show w2.heap.size < _; first | omega | (simp <;> omega))
    have kf0 := fun o => hb.frozen (p := ⟨w.heap.size + 1, o, none⟩) (by show w.heap.size + 1 < _; first | omega | (simp <;> omega))
    have hz := hb.size
    (try simp at hz)
    have kl0 : w.heap.size < w3.heap.size := by omega
    have kn0 : ¬ w.heap.size = w3.heap.size := by omega
    have km0 : ¬ w3.heap.size = w.heap.size := by omega
    have kl1 : w.heap.size + 1 < w3.heap.size := by omega
    have kn1 : ¬ w.heap.size + 1 = w3.heap.size := by omega
    have km1 : ¬ w3.heap.size = w.heap.size + 1 := by omega
    have kl2 : w1.heap.size < w3.heap.size := by omega
    have kn2 : ¬ w1.heap.size = w3.heap.size := by omega
    have km2 : ¬ w3.heap.size = w1.heap.size := by omega
    have kl3 : w2.heap.size < w3.heap.size := by omega
    have kn3 : ¬ w2.heap.size = w3.heap.size := by omega
    have km3 : ¬ w3.heap.size = w2.heap.size := by omega
    have HB := Lib.hid (show Below w.heap.size w w3 from by exact HB.out.trans ((show Below _ _ _ from ((Below.refl _ _).alloc (by omega) _)).trans (hb.mono (by first | omega | (simp <;> omega)))))
    have HR := Lib.hid ((show Room _ (w.heap.size + 1) 4 from (HR.out.alloc (by omega) _)).below hb (by first | omega | (simp <;> omega)))
    clear ho hb
    go_wp2_with fail
    refine (sptimes_fr a.x (fMirror a.y).1 _).mono ?_
    rintro e w4 ho
    obtain ⟨rfl, hb⟩ := ho.fn
    have kc0 := fun o => hb.cell (p := ⟨w.heap.size, o, none⟩) (by show w.heap.size < _; first | omega | (simp <;> omega))
    have kc1 := fun o => hb.cell (p := ⟨w.heap.size + 1, o, none⟩) (by show w.heap.size + 1 < _; first | omega | (simp <;> omega))
    have kc2 := fun o => hb.cell (p := ⟨w1.heap.size, o, none⟩) (by show w1.heap.size < _; first | omega | (simp <;> omega))
    have kc3 := fun o => hb.cell (p := ⟨w2.heap.size, o, none⟩) (by show w2.heap.size < _; first | omega | (simp <;> omega))
    have kc4 := fun o => hb.cell (p := ⟨w3.heap.size, o, none⟩) (by show w3.heap.size < _; first | omega | (simp <;> omega))
    have kf0 := fun o => hb.frozen (p := ⟨w.heap.size + 1, o, none⟩) (by show w.heap.size + 1 < _; first | omega | (simp <;> omega))
    have hz := hb.size
    (try simp at hz)
    have kl0 : w.heap.size < w4.heap.size := by omega
    have kn0 : ¬ w.heap.size = w4.heap.size := by omega
    have km0 : ¬ w4.heap.size = w.heap.size := by omega
    have kl1 : w.heap.size + 1 < w4.heap.size := by omega
    have kn1 : ¬ w.heap.size + 1 = w4.heap.size := by omega
    have km1 : ¬ w4.heap.size = w.heap.size + 1 := by omega
    have kl2 : w1.heap.size < w4.heap.size := by omega
    have kn2 : ¬ w1.heap.size = w4.heap.size := by omega
    have km2 : ¬ w4.heap.size = w1.heap.size := by omega
    have kl3 : w2.heap.size < w4.heap.size := by omega
    have kn3 : ¬ w2.heap.size = w4.heap.size := by omega
    have km3 : ¬ w4.heap.size = w2.heap.size := by omega
    have kl4 : w3.heap.size < w4.heap.size := by omega
    have kn4 : ¬ w3.heap.size = w4.heap.size := by omega
    have km4 : ¬ w4.heap.size = w3.heap.size := by omega
    have HB := Lib.hid (show Below w.heap.size w w4 from by exact HB.out.trans ((show Below _ _ _ from ((Below.refl _ _).alloc (by omega) _)).trans (hb.mono (by first | omega | (simp <;> omega)))))
    have HR := Lib.hid ((show Room _ (w.heap.size + 1) 4 from (HR.out.alloc (by omega) _)).below hb (by first | omega | (simp <;> omega)))
    clear ho hb
    go_wp2_with fail
    refine (spadd_fr _ _ _).mono ?_
    rintro e w5 ho
    obtain ⟨rfl, hb⟩ := ho.fn
    have kc0 := fun o => hb.cell (p := ⟨w.heap.size, o, none⟩) (by show w.heap.size < _; first | omega | (simp <;> omega))
    have kc1 := fun o => hb.cell (p := ⟨w.heap.size + 1, o, none⟩) (by show w.heap.size + 1 < _; first | omega | (simp <;> omega))
    have kc2 := fun o => hb.cell (p := ⟨w1.heap.size, o, none⟩) (by show w1.heap.size < _; first | omega | (simp <;> omega))
    have kc3 := fun o => hb.cell (p := ⟨w2.heap.size, o, none⟩) (by show w2.heap.size < _; first | omega | (simp <;> omega))
    have kc4 := fun o => hb.cell (p := ⟨w3.heap.size, o, none⟩) (by show w3.heap.size < _; first | omega | (simp <;> omega))
    have kc5 := fun o => hb.cell (p := ⟨w4.heap.size, o, none⟩) (by show w4.heap.size < _; first | omega | (simp <;> omega))
    have kf0 := fun o => hb.frozen (p := ⟨w.heap.size + 1, o, none⟩) (by show w.heap.size + 1 < _; first | omega | (simp <;> omega))
    have hz := hb.size
    (try simp at hz)
    have kl0 : w.heap.size < w5.heap.size := by omega
    have kn0 : ¬ w.heap.size = w5.heap.size := by omega
    have km0 : ¬ w5.heap.size = w.heap.size := by omega
    have kl1 : w.heap.size + 1 < w5.heap.size := by omega
    have kn1 : ¬ w.heap.size + 1 = w5.heap.size := by omega
    have km1 : ¬ w5.heap.size = w.heap.size + 1 := by omega
    have kl2 : w1.heap.size < w5.heap.size := by omega
    have kn2 : ¬ w1.heap.size = w5.heap.size := by omega
    have km2 : ¬ w5.heap.size = w1.heap.size := by omega
    have kl3 : w2.heap.size < w5.heap.size := by omega
    have kn3 : ¬ w2.heap.size = w5.heap.size := by omega
    have km3 : ¬ w5.heap.size = w2.heap.size := by omega
    have kl4 : w3.heap.size < w5.heap.size := by omega
    have kn4 : ¬ w3.heap.size = w5.heap.size := by omega
    have km4 : ¬ w5.heap.size = w3.heap.size := by omega
    have kl5 : w4.heap.size < w5.heap.size := by omega
    have kn5 : ¬ w4.heap.size = w5.heap.size := by omega
    have km5 : ¬ w5.heap.size = w4.heap.size := by omega
    have HB := Lib.hid (show Below w.heap.size w w5 from by exact HB.out.trans ((show Below _ _ _ from ((Below.refl _ _).alloc (by omega) _)).trans (hb.mono (by first | omega | (simp <;> omega)))))
    have HR := Lib.hid ((show Room _ (w.heap.size + 1) 4 from (HR.out.alloc (by omega) _)).below hb (by first | omega | (simp <;> omega)))
    clear ho hb
    go_wp2_with fail
    refine (spless_fr _ _ _).mono ?_
    rintro e w6 ho
    obtain ⟨rfl, hb⟩ := ho.fn
    have kc0 := fun o => hb.cell (p := ⟨w.heap.size, o, none⟩) (by show w.heap.size < _; first | omega | (simp <;> omega))
    have kc1 := fun o => hb.cell (p := ⟨w.heap.size + 1, o, none⟩) (by show w.heap.size + 1 < _; first | omega | (simp <;> omega))
    have kc2 := fun o => hb.cell (p := ⟨w1.heap.size, o, none⟩) (by show w1.heap.size < _; first | omega | (simp <;> omega))
    have kc3 := fun o => hb.cell (p := ⟨w2.heap.size, o, none⟩) (by show w2.heap.size < _; first | omega | (simp <;> omega))
    have kc4 := fun o => hb.cell (p := ⟨w3.heap.size, o, none⟩) (by show w3.heap.size < _; first | omega | (simp <;> omega))
    have kc5 := fun o => hb.cell (p := ⟨w4.heap.size, o, none⟩) (by show w4.heap.size < _; first | omega | (simp <;> omega))
    have kc6 := fun o => hb.cell (p := ⟨w5.heap.size, o, none⟩) (by show w5.heap.size < _; first | omega | (simp <;> omega))
    have kf0 := fun o => hb.frozen (p := ⟨w.heap.size + 1, o, none⟩) (by show w.heap.size + 1 < _; first | omega | (simp <;> omega))
    have hz := hb.size
    (try simp at hz)
    have kl0 : w.heap.size < w6.heap.size := by omega
    have kn0 : ¬ w.heap.size = w6.heap.size := by omega
    have km0 : ¬ w6.heap.size = w.heap.size := by omega
    have kl1 : w.heap.size + 1 < w6.heap.size := by omega
    have kn1 : ¬ w.heap.size + 1 = w6.heap.size := by omega
    have km1 : ¬ w6.heap.size = w.heap.size + 1 := by omega
    have kl2 : w1.heap.size < w6.heap.size := by omega
    have kn2 : ¬ w1.heap.size = w6.heap.size := by omega
    have km2 : ¬ w6.heap.size = w1.heap.size := by omega
    have kl3 : w2.heap.size < w6.heap.size := by omega
    have kn3 : ¬ w2.heap.size = w6.heap.size := by omega
    have km3 : ¬ w6.heap.size = w2.heap.size := by omega
    have kl4 : w3.heap.size < w6.heap.size := by omega
    have kn4 : ¬ w3.heap.size = w6.heap.size := by omega
    have km4 : ¬ w6.heap.size = w3.heap.size := by omega
    have kl5 : w4.heap.size < w6.heap.size := by omega
    have kn5 : ¬ w4.heap.size = w6.heap.size := by omega
    have km5 : ¬ w6.heap.size = w4.heap.size := by omega
    have kl6 : w5.heap.size < w6.heap.size := by omega
    have kn6 : ¬ w5.heap.size = w6.heap.size := by omega
    have km6 : ¬ w6.heap.size = w5.heap.size := by omega
    have HB := Lib.hid (show Below w.heap.size w w6 from by exact HB.out.trans ((show Below _ _ _ from ((Below.refl _ _).alloc (by omega) _)).trans (hb.mono (by first | omega | (simp <;> omega)))))
    have HR := Lib.hid ((show Room _ (w.heap.size + 1) 4 from (HR.out.alloc (by omega) _)).below hb (by first | omega | (simp <;> omega)))
    clear ho hb
    go_wp2_with fail
    refine (l4twice_any (fTimes a.x (fMirror a.y).1).1.re (fTimes a.x (fMirror a.y).1).1.den (fTimes_rng (fTimes_vld h4).2.2).1.1 (fTimes_rng (fTimes_vld h4).2.2).1.2 (fTimes_rng (fTimes_vld h4).2.2).2.2.1 (fTimes_rng (fTimes_vld h4).2.2).2.2.2 _).mono ?_
    rintro e w7 ho
    obtain ⟨rfl, hb⟩ := ho.fn
    have kc0 := fun o => hb.cell (p := ⟨w.heap.size, o, none⟩) (by show w.heap.size < _; first | omega | (simp <;> omega))
    have kc1 := fun o => hb.cell (p := ⟨w.heap.size + 1, o, none⟩) (by show w.heap.size + 1 < _; first | omega | (simp <;> omega))
    have kc2 := fun o => hb.cell (p := ⟨w1.heap.size, o, none⟩) (by show w1.heap.size < _; first | omega | (simp <;> omega))
    have kc3 := fun o => hb.cell (p := ⟨w2.heap.size, o, none⟩) (by show w2.heap.size < _; first | omega | (simp <;> omega))
    have kc4 := fun o => hb.cell (p := ⟨w3.heap.size, o, none⟩) (by show w3.heap.size < _; first | omega | (simp <;> omega))
    have kc5 := fun o => hb.cell (p := ⟨w4.heap.size, o, none⟩) (by show w4.heap.size < _; first | omega | (simp <;> omega))
    have kc6 := fun o => hb.cell (p := ⟨w5.heap.size, o, none⟩) (by show w5.heap.size < _; first | omega | (simp <;> omega))
    have kc7 := fun o => hb.cell (p := ⟨w6.heap.size, o, none⟩) (by show w6.heap.size < _; first | omega | (simp <;> omega))
    have kf0 := fun o => hb.frozen (p := ⟨w.heap.size + 1, o, none⟩) (by show w.heap.size + 1 < _; first | omega | (simp <;> omega))
    have hz := hb.size
    (try simp at hz)
    have kl0 : w.heap.size < w7.heap.size := by omega
    have kn0 : ¬ w.heap.size = w7.heap.size := by omega
    have km0 : ¬ w7.heap.size = w.heap.size := by omega
    have kl1 : w.heap.size + 1 < w7.heap.size := by omega
    have kn1 : ¬ w.heap.size + 1 = w7.heap.size := by omega
    have km1 : ¬ w7.heap.size = w.heap.size + 1 := by omega
    have kl2 : w1.heap.size < w7.heap.size := by omega
    have kn2 : ¬ w1.heap.size = w7.heap.size := by omega
    have km2 : ¬ w7.heap.size = w1.heap.size := by omega
    have kl3 : w2.heap.size < w7.heap.size := by omega
    have kn3 : ¬ w2.heap.size = w7.heap.size := by omega
    have km3 : ¬ w7.heap.size = w2.heap.size := by omega
    have kl4 : w3.heap.size < w7.heap.size := by omega
    have kn4 : ¬ w3.heap.size = w7.heap.size := by omega
    have km4 : ¬ w7.heap.size = w3.heap.size := by omega
    have kl5 : w4.heap.size < w7.heap.size := by omega
    have kn5 : ¬ w4.heap.size = w7.heap.size := by omega
    have km5 : ¬ w7.heap.size = w4.heap.size := by omega
    have kl6 : w5.heap.size < w7.heap.size := by omega
    have kn6 : ¬ w5.heap.size = w7.heap.size := by omega
    have km6 : ¬ w7.heap.size = w5.heap.size := by omega
    have kl7 : w6.heap.size < w7.heap.size := by omega
    have kn7 : ¬ w6.heap.size = w7.heap.size := by omega
    have km7 : ¬ w7.heap.size = w6.heap.size := by omega
    have HB := Lib.hid (show Below w.heap.size w w7 from by exact HB.out.trans ((show Below _ _ _ from ((Below.refl _ _).alloc (by omega) _)).trans (hb.mono (by first | omega | (simp <;> omega)))))
    have HR := Lib.hid ((show Room _ (w.heap.size + 1) 4 from (HR.out.alloc (by omega) _)).below hb (by first | omega | (simp <;> omega)))
    clear ho hb
    go_wp2_with fail
    refine (l4twice_any (fTimes a.x (fMirror a.y).1).1.im (fTimes a.x (fMirror a.y).1).1.den (fTimes_rng (fTimes_vld h4).2.2).2.1.1 (fTimes_rng (fTimes_vld h4).2.2).2.1.2 (fTimes_rng (fTimes_vld h4).2.2).2.2.1 (fTimes_rng (fTimes_vld h4).2.2).2.2.2 _).mono ?_
    rintro e w8 ho
    obtain ⟨rfl, hb⟩ := ho.fn
    have kc0 := fun o => hb.cell (p := ⟨w.heap.size, o, none⟩) (by show w.heap.size < _; first | omega | (simp <;> omega))
    have kc1 := fun o => hb.cell (p := ⟨w.heap.size + 1, o, none⟩) (by show w.heap.size + 1 < _; first | omega | (simp <;> omega))
    have kc2 := fun o => hb.cell (p := ⟨w1.heap.size, o, none⟩) (by show w1.heap.size < _; first | omega | (simp <;> omega))
    have kc3 := fun o => hb.cell (p := ⟨w2.heap.size, o, none⟩) (by show w2.heap.size < _; first | omega | (simp <;> omega))
    have kc4 := fun o => hb.cell (p := ⟨w3.heap.size, o, none⟩) (by show w3.heap.size < _; first | omega | (simp <;> omega))
    have kc5 := fun o => hb.cell (p := ⟨w4.heap.size, o, none⟩) (by show w4.heap.size < _; first | omega | (simp <;> omega))
    have kc6 := fun o => hb.cell (p := ⟨w5.heap.size, o, none⟩) (by show w5.heap.size < _; first | omega | (simp <;> omega))
    have kc7 := fun o => hb.cell (p := ⟨w6.heap.size, o, none⟩) (by show w6.heap.size < _; first | omega | (simp <;> omega))
    have kc8 := fun o => hb.cell (p := ⟨w7.heap.size, o, none⟩) (by show w7.heap.size < _; first | omega | (simp <;> omega))
    have kf0 := fun o => hb.frozen (p := ⟨w.heap.size + 1, o, none⟩) (by show w.heap.size + 1 < _; first | omega | (simp <;> omega))
    have hz := hb.size
    (try simp at hz)
    have kl0 : w.heap.size < w8.heap.size := by omega
    have kn0 : ¬ w.heap.size = w8.heap.size := by omega
    have km0 : ¬ w8.heap.size = w.heap.size := by omega
    have kl1 : w.heap.size + 1 < w8.heap.size := by omega
    have kn1 : ¬ w.heap.size + 1 = w8.heap.size := by omega
    have km1 : ¬ w8.heap.size = w.heap.size + 1 := by omega
    have kl2 : w1.heap.size < w8.heap.size := by omega
    have kn2 : ¬ w1.heap.size = w8.heap.size := by omega
    have km2 : ¬ w8.heap.size = w1.heap.size := by omega
    have kl3 : w2.heap.size < w8.heap.size := by omega
    have kn3 : ¬ w2.heap.size = w8.heap.size := by omega
    have km3 : ¬ w8.heap.size = w2.heap.size := by omega
    have kl4 : w3.heap.size < w8.heap.size := by omega
    have kn4 : ¬ w3.heap.size = w8.heap.size := by omega
    have km4 : ¬ w8.heap.size = w3.heap.size := by omega
    have kl5 : w4.heap.size < w8.heap.size := by omega
    have kn5 : ¬ w4.heap.size = w8.heap.size := by omega
    have km5 : ¬ w8.heap.size = w4.heap.size := by omega
    have kl6 : w5.heap.size < w8.heap.size := by omega
    have kn6 : ¬ w5.heap.size = w8.heap.size := by omega
    have km6 : ¬ w8.heap.size = w5.heap.size := by omega
    have kl7 : w6.heap.size < w8.heap.size := by omega
    have kn7 : ¬ w6.heap.size = w8.heap.size := by omega
    have km7 : ¬ w8.heap.size = w6.heap.size := by omega
    have kl8 : w7.heap.size < w8.heap.size := by omega
    have kn8 : ¬ w7.heap.size = w8.heap.size := by omega
    have km8 : ¬ w8.heap.size = w7.heap.size := by omega
    have HB := Lib.hid (show Below w.heap.size w w8 from by exact HB.out.trans ((show Below _ _ _ from ((Below.refl _ _).alloc (by omega) _)).trans (hb.mono (by first | omega | (simp <;> omega)))))
    have HR := Lib.hid ((show Room _ (w.heap.size + 1) 4 from (HR.out.alloc (by omega) _)).below hb (by first | omega | (simp <;> omega)))
    clear ho hb
    go_wp2
    refine bodyPost_ret (v := .tuple #[.agg #[.int .i64 0, .int .i64 0, .int .i64 0, .int .i64 0, .int .i64 0, .int .i64 0, .int .i64 0, .int .i64 0, .int .i64 0, .int .i64 0, .int .i64 0, .int .i64 0], .bool false]) ?_ rfl (M4Out.no HG.out ?_)
    · exact Eq.trans (results_cell_mid2 Tryd.results126 _ _ (w.heap.size + 1) [.int .i64 0, .int .i64 0, .int .i64 0, .int .i64 0, .int .i64 0, .int .i64 0, .int .i64 0, .int .i64 0, .int .i64 0, .int .i64 0, .int .i64 0, .int .i64 0] _ (by rfl) (by ((repeat' first | (with_reducible refine World.rangeAt_setCells_same _ (w.heap.size + 1) 0 [.int .i64 0, .int .i64 0, .int .i64 0, .int .i64 0, .int .i64 0, .int .i64 0, .int .i64 0, .int .i64 0, .int .i64 0, .int .i64 0, .int .i64 0, .int .i64 0] ?_) | (with_reducible refine World.rangeAt_alloc ?_ _) | (with_reducible refine (World.rangeAt_drew _ _ _ _).2 ?_)); first | exact HR.out.there | (have hh := fun W h => World.rangeAt_setCells_same W (w.heap.size + 1) 0 [.int .i64 0, .int .i64 0, .int .i64 0, .int .i64 0, .int .i64 0, .int .i64 0, .int .i64 0, .int .i64 0, .int .i64 0, .int .i64 0, .int .i64 0, .int .i64 0] h; simp only [World.setCells, Nat.zero_add, Nat.reduceAdd] at hh; exact hh _ HR.out.there))) Tryd.underlying51 rfl (by kernel_rfl)) rfl
    · (repeat' first | (with_reducible exact HB.out) | with_reducible refine setCells_below _ _ _ ?_ (by first | omega | (simp <;> omega)) | with_reducible refine Below.setCell ?_ (by show _ ≤ _; first | omega | (simp <;> omega) | simp) _ | with_reducible refine Below.alloc ?_ (by first | omega | (simp <;> omega)) _ | with_reducible apply Below.drew)
  · have HG : Hid ((sOf a) = (⟨(fAdd (fPower a.x).1 (fPower a.y).1).1, (fLess (fPower a.x).1 (fPower a.y).1).1, (low (2 * (fTimes a.x (fMirror a.y).1).1.re) 0 (fTimes a.x (fMirror a.y).1).1.den).1, (low (2 * (fTimes a.x (fMirror a.y).1).1.im) 0 (fTimes a.x (fMirror a.y).1).1.den).1⟩, true)) := by show _ = _; simp [sOf, h1, h2, h3, h4, h5, h6, h7, h8]
    go_enter Tryd.func126, Tryd.ntmps126
    go_wp2_with fail
    refine (sppower_fr a.x _).mono ?_
    rintro e w1 ho
    obtain ⟨rfl, hb⟩ := ho.fn
    have kc0 := fun o => hb.cell (p := ⟨w.heap.size, o, none⟩) (by show w.heap.size < _; first | omega | (simp <;> omega))
    have kc1 := fun o => hb.cell (p := ⟨w.heap.size + 1, o, none⟩) (by show w.heap.size + 1 < _; first | omega | (simp <;> omega))
    have kf0 := fun o => hb.frozen (p := ⟨w.heap.size + 1, o, none⟩) (by show w.heap.size + 1 < _; first | omega | (simp <;> omega))
    have hz := hb.size
    (try simp at hz)
    have kl0 : w.heap.size < w1.heap.size := by omega
    have kn0 : ¬ w.heap.size = w1.heap.size := by omega
    have km0 : ¬ w1.heap.size = w.heap.size := by omega
    have kl1 : w.heap.size + 1 < w1.heap.size := by omega
    have kn1 : ¬ w.heap.size + 1 = w1.heap.size := by omega
    have km1 : ¬ w1.heap.size = w.heap.size + 1 := by omega
    have HB := Lib.hid (show Below w.heap.size w w1 from by (repeat' first | exact Below.refl _ _ | apply bl_alloc | apply bl_drewN | apply bl_drew | refine bl_trans ?_ (by assumption) | refine bl_set ?_ (by first | omega | (simp <;> omega)) _))
    have HR := Lib.hid ((show Room _ (w.heap.size + 1) 4 from (Room.new' (by simp) rfl)).below hb (by first | omega | (simp <;> omega)))
    clear ho hb
    go_wp2_with fail
    refine (sppower_fr a.y _).mono ?_
    rintro e w2 ho
    obtain ⟨rfl, hb⟩ := ho.fn
    have kc0 := fun o => hb.cell (p := ⟨w.heap.size, o, none⟩) (by show w.heap.size < _; first | omega | (simp <;> omega))
    have kc1 := fun o => hb.cell (p := ⟨w.heap.size + 1, o, none⟩) (by show w.heap.size + 1 < _; first | omega | (simp <;> omega))
    have kc2 := fun o => hb.cell (p := ⟨w1.heap.size, o, none⟩) (by show w1.heap.size < _; first | omega | (simp <;> omega))
    have kf0 := fun o => hb.frozen (p := ⟨w.heap.size + 1, o, none⟩) (by show w.heap.size + 1 < _; first | omega | (simp <;> omega))
    have hz := hb.size
    (try simp at hz)
    have kl0 : w.heap.size < w2.heap.size := by omega
    have kn0 : ¬ w.heap.size = w2.heap.size := by omega
    have km0 : ¬ w2.heap.size = w.heap.size := by omega
    have kl1 : w.heap.size + 1 < w2.heap.size := by omega
    have kn1 : ¬ w.heap.size + 1 = w2.heap.size := by omega
    have km1 : ¬ w2.heap.size = w.heap.size + 1 := by omega
    have kl2 : w1.heap.size < w2.heap.size := by omega
    have kn2 : ¬ w1.heap.size = w2.heap.size := by omega
    have km2 : ¬ w2.heap.size = w1.heap.size := by omega
    have HB := Lib.hid (show Below w.heap.size w w2 from by exact HB.out.trans ((show Below _ _ _ from ((Below.refl _ _).alloc (by omega) _)).trans (hb.mono (by first | omega | (simp <;> omega)))))
    have HR := Lib.hid ((show Room _ (w.heap.size + 1) 4 from (HR.out.alloc (by omega) _)).below hb (by first | omega | (simp <;> omega)))
    clear ho hb
    go_wp2_with fail
    refine (spmirror_fr a.y _).mono ?_
    rintro e w3 ho
    obtain ⟨rfl, hb⟩ := ho.fn
    have kc0 := fun o => hb.cell (p := ⟨w.heap.size, o, none⟩) (by show w.heap.size < _; first | omega | (simp <;> omega))
    have kc1 := fun o => hb.cell (p := ⟨w.heap.size + 1, o, none⟩) (by show w.heap.size + 1 < _; first | omega | (simp <;> omega))
    have kc2 := fun o => hb.cell (p := ⟨w1.heap.size, o, none⟩) (by show w1.heap.size < _; first | omega | (simp <;> omega))
    have kc3 := fun o => hb.cell (p := ⟨w2.heap.size, o, none⟩) (by show w2.heap.size < _; first | omega | (simp <;> omega))
    have kf0 := fun o => hb.frozen (p := ⟨w.heap.size + 1, o, none⟩) (by show w.heap.size + 1 < _; first | omega | (simp <;> omega))
    have hz := hb.size
    (try simp at hz)
    have kl0 : w.heap.size < w3.heap.size := by omega
    have kn0 : ¬ w.heap.size = w3.heap.size := by omega
    have km0 : ¬ w3.heap.size = w.heap.size := by omega
    have kl1 : w.heap.size + 1 < w3.heap.size := by omega
    have kn1 : ¬ w.heap.size + 1 = w3.heap.size := by omega
    have km1 : ¬ w3.heap.size = w.heap.size + 1 := by omega
    have kl2 : w1.heap.size < w3.heap.size := by omega
    have kn2 : ¬ w1.heap.size = w3.heap.size := by omega
    have km2 : ¬ w3.heap.size = w1.heap.size := by omega
    have kl3 : w2.heap.size < w3.heap.size := by omega
    have kn3 : ¬ w2.heap.size = w3.heap.size := by omega
    have km3 : ¬ w3.heap.size = w2.heap.size := by omega
    have HB := Lib.hid (show Below w.heap.size w w3 from by exact HB.out.trans ((show Below _ _ _ from ((Below.refl _ _).alloc (by omega) _)).trans (hb.mono (by first | omega | (simp <;> omega)))))
    have HR := Lib.hid ((show Room _ (w.heap.size + 1) 4 from (HR.out.alloc (by omega) _)).below hb (by first | omega | (simp <;> omega)))
    clear ho hb
    go_wp2_with fail
    refine (sptimes_fr a.x (fMirror a.y).1 _).mono ?_
    rintro e w4 ho
    obtain ⟨rfl, hb⟩ := ho.fn
    have kc0 := fun o => hb.cell (p := ⟨w.heap.size, o, none⟩) (by show w.heap.size < _; first | omega | (simp <;> omega))
    have kc1 := fun o => hb.cell (p := ⟨w.heap.size + 1, o, none⟩) (by show w.heap.size + 1 < _; first | omega | (simp <;> omega))
    have kc2 := fun o => hb.cell (p := ⟨w1.heap.size, o, none⟩) (by show w1.heap.size < _; first | omega | (simp <;> omega))
    have kc3 := fun o => hb.cell (p := ⟨w2.heap.size, o, none⟩) (by show w2.heap.size < _; first | omega | (simp <;> omega))
    have kc4 := fun o => hb.cell (p := ⟨w3.heap.size, o, none⟩) (by show w3.heap.size < _; first | omega | (simp <;> omega))
    have kf0 := fun o => hb.frozen (p := ⟨w.heap.size + 1, o, none⟩) (by show w.heap.size + 1 < _; first | omega | (simp <;> omega))
    have hz := hb.size
    (try simp at hz)
    have kl0 : w.heap.size < w4.heap.size := by omega
    have kn0 : ¬ w.heap.size = w4.heap.size := by omega
    have km0 : ¬ w4.heap.size = w.heap.size := by omega
    have kl1 : w.heap.size + 1 < w4.heap.size := by omega
    have kn1 : ¬ w.heap.size + 1 = w4.heap.size := by omega
    have km1 : ¬ w4.heap.size = w.heap.size + 1 := by omega
    have kl2 : w1.heap.size < w4.heap.size := by omega
    have kn2 : ¬ w1.heap.size = w4.heap.size := by omega
    have km2 : ¬ w4.heap.size = w1.heap.size := by omega
    have kl3 : w2.heap.size < w4.heap.size := by omega
    have kn3 : ¬ w2.heap.size = w4.heap.size := by omega
    have km3 : ¬ w4.heap.size = w2.heap.size := by omega
    have kl4 : w3.heap.size < w4.heap.size := by omega
    have kn4 : ¬ w3.heap.size = w4.heap.size := by omega
    have km4 : ¬ w4.heap.size = w3.heap.size := by omega
    have HB := Lib.hid (show Below w.heap.size w w4 from by exact HB.out.trans ((show Below _ _ _ from ((Below.refl _ _).alloc (by omega) _)).trans (hb.mono (by first | omega | (simp <;> omega)))))
    have HR := Lib.hid ((show Room _ (w.heap.size + 1) 4 from (HR.out.alloc (by omega) _)).below hb (by first | omega | (simp <;> omega)))
    clear ho hb
    go_wp2_with fail
    refine (spadd_fr _ _ _).mono ?_
    rintro e w5 ho
    obtain ⟨rfl, hb⟩ := ho.fn
    have kc0 := fun o => hb.cell (p := ⟨w.heap.size, o, none⟩) (by show w.heap.size < _; first | omega | (simp <;> omega))
    have kc1 := fun o => hb.cell (p := ⟨w.heap.size + 1, o, none⟩) (by show w.heap.size + 1 < _; first | omega | (simp <;> omega))
    have kc2 := fun o => hb.cell (p := ⟨w1.heap.size, o, none⟩) (by show w1.heap.size < _; first | omega | (simp <;> omega))
    have kc3 := fun o => hb.cell (p := ⟨w2.heap.size, o, none⟩) (by show w2.heap.size < _; first | omega | (simp <;> omega))
    have kc4 := fun o => hb.cell (p := ⟨w3.heap.size, o, none⟩) (by show w3.heap.size < _; first | omega | (simp <;> omega))
    have kc5 := fun o => hb.cell (p := ⟨w4.heap.size, o, none⟩) (by show w4.heap.size < _; first | omega | (simp <;> omega))
    have kf0 := fun o => hb.frozen (p := ⟨w.heap.size + 1, o, none⟩) (by show w.heap.size + 1 < _; first | omega | (simp <;> omega))
    have hz := hb.size
    (try simp at hz)
    have kl0 : w.heap.size < w5.heap.size := by omega
    have kn0 : ¬ w.heap.size = w5.heap.size := by omega
    have km0 : ¬ w5.heap.size = w.heap.size := by omega
    have kl1 : w.heap.size + 1 < w5.heap.size := by omega
    have kn1 : ¬ w.heap.size + 1 = w5.heap.size := by omega
    have km1 : ¬ w5.heap.size = w.heap.size + 1 := by omega
    have kl2 : w1.heap.size < w5.heap.size := by omega
    have kn2 : ¬ w1.heap.size = w5.heap.size := by omega
    have km2 : ¬ w5.heap.size = w1.heap.size := by omega
    have kl3 : w2.heap.size < w5.heap.size := by omega
    have kn3 : ¬ w2.heap.size = w5.heap.size := by omega
    have km3 : ¬ w5.heap.size = w2.heap.size := by omega
    have kl4 : w3.heap.size < w5.heap.size := by omega
    have kn4 : ¬ w3.heap.size = w5.heap.size := by omega
    have km4 : ¬ w5.heap.size = w3.heap.size := by omega
    have kl5 : w4.heap.size < w5.heap.size := by omega
    have kn5 : ¬ w4.heap.size = w5.heap.size := by omega
    have km5 : ¬ w5.heap.size = w4.heap.size := by omega
    have HB := Lib.hid (show Below w.heap.size w w5 from by exact HB.out.trans ((show Below _ _ _ from ((Below.refl _ _).alloc (by omega) _)).trans (hb.mono (by first | omega | (simp <;> omega)))))
    have HR := Lib.hid ((show Room _ (w.heap.size + 1) 4 from (HR.out.alloc (by omega) _)).below hb (by first | omega | (simp <;> omega)))
    clear ho hb
    go_wp2_with fail
    refine (spless_fr _ _ _).mono ?_
    rintro e w6 ho
    obtain ⟨rfl, hb⟩ := ho.fn
    have kc0 := fun o => hb.cell (p := ⟨w.heap.size, o, none⟩) (by show w.heap.size < _; first | omega | (simp <;> omega))
    have kc1 := fun o => hb.cell (p := ⟨w.heap.size + 1, o, none⟩) (by show w.heap.size + 1 < _; first | omega | (simp <;> omega))
    have kc2 := fun o => hb.cell (p := ⟨w1.heap.size, o, none⟩) (by show w1.heap.size < _; first | omega | (simp <;> omega))
    have kc3 := fun o => hb.cell (p := ⟨w2.heap.size, o, none⟩) (by show w2.heap.size < _; first | omega | (simp <;> omega))
    have kc4 := fun o => hb.cell (p := ⟨w3.heap.size, o, none⟩) (by show w3.heap.size < _; first | omega | (simp <;> omega))
    have kc5 := fun o => hb.cell (p := ⟨w4.heap.size, o, none⟩) (by show w4.heap.size < _; first | omega | (simp <;> omega))
    have kc6 := fun o => hb.cell (p := ⟨w5.heap.size, o, none⟩) (by show w5.heap.size < _; first | omega | (simp <;> omega))
    have kf0 := fun o => hb.frozen (p := ⟨w.heap.size + 1, o, none⟩) (by show w.heap.size + 1 < _; first | omega | (simp <;> omega))
    have hz := hb.size
    (try simp at hz)
    have kl0 : w.heap.size < w6.heap.size := by omega
    have kn0 : ¬ w.heap.size = w6.heap.size := by omega
    have km0 : ¬ w6.heap.size = w.heap.size := by omega
    have kl1 : w.heap.size + 1 < w6.heap.size := by omega
    have kn1 : ¬ w.heap.size + 1 = w6.heap.size := by omega
    have km1 : ¬ w6.heap.size = w.heap.size + 1 := by omega
    have kl2 : w1.heap.size < w6.heap.size := by omega
    have kn2 : ¬ w1.heap.size = w6.heap.size := by omega
    have km2 : ¬ w6.heap.size = w1.heap.size := by omega
    have kl3 : w2.heap.size < w6.heap.size := by omega
    have kn3 : ¬ w2.heap.size = w6.heap.size := by omega
    have km3 : ¬ w6.heap.size = w2.heap.size := by omega
    have kl4 : w3.heap.size < w6.heap.size := by omega
    have kn4 : ¬ w3.heap.size = w6.heap.size := by omega
    have km4 : ¬ w6.heap.size = w3.heap.size := by omega
    have kl5 : w4.heap.size < w6.heap.size := by omega
    have kn5 : ¬ w4.heap.size = w6.heap.size := by omega
    have km5 : ¬ w6.heap.size = w4.heap.size := by omega
    have kl6 : w5.heap.size < w6.heap.size := by omega
    have kn6 : ¬ w5.heap.size = w6.heap.size := by omega
    have km6 : ¬ w6.heap.size = w5.heap.size := by omega
    have HB := Lib.hid (show Below w.heap.size w w6 from by exact HB.out.trans ((show Below _ _ _ from ((Below.refl _ _).alloc (by omega) _)).trans (hb.mono (by first | omega | (simp <;> omega)))))
    have HR := Lib.hid ((show Room _ (w.heap.size + 1) 4 from (HR.out.alloc (by omega) _)).below hb (by first | omega | (simp <;> omega)))
    clear ho hb
    go_wp2_with fail
    refine (l4twice_any (fTimes a.x (fMirror a.y).1).1.re (fTimes a.x (fMirror a.y).1).1.den (fTimes_rng (fTimes_vld h4).2.2).1.1 (fTimes_rng (fTimes_vld h4).2.2).1.2 (fTimes_rng (fTimes_vld h4).2.2).2.2.1 (fTimes_rng (fTimes_vld h4).2.2).2.2.2 _).mono ?_
    rintro e w7 ho
    obtain ⟨rfl, hb⟩ := ho.fn
    have kc0 := fun o => hb.cell (p := ⟨w.heap.size, o, none⟩) (by show w.heap.size < _; first | omega | (simp <;> omega))
    have kc1 := fun o => hb.cell (p := ⟨w.heap.size + 1, o, none⟩) (by show w.heap.size + 1 < _; first | omega | (simp <;> omega))
    have kc2 := fun o => hb.cell (p := ⟨w1.heap.size, o, none⟩) (by show w1.heap.size < _; first | omega | (simp <;> omega))
    have kc3 := fun o => hb.cell (p := ⟨w2.heap.size, o, none⟩) (by show w2.heap.size < _; first | omega | (simp <;> omega))
    have kc4 := fun o => hb.cell (p := ⟨w3.heap.size, o, none⟩) (by show w3.heap.size < _; first | omega | (simp <;> omega))
    have kc5 := fun o => hb.cell (p := ⟨w4.heap.size, o, none⟩) (by show w4.heap.size < _; first | omega | (simp <;> omega))
    have kc6 := fun o => hb.cell (p := ⟨w5.heap.size, o, none⟩) (by show w5.heap.size < _; first | omega | (simp <;> omega))
    have kc7 := fun o => hb.cell (p := ⟨w6.heap.size, o, none⟩) (by show w6.heap.size < _; first | omega | (simp <;> omega))
    have kf0 := fun o => hb.frozen (p := ⟨w.heap.size + 1, o, none⟩) (by show w.heap.size + 1 < _; first | omega | (simp <;> omega))
    have hz := hb.size
    (try simp at hz)
    have kl0 : w.heap.size < w7.heap.size := by omega
    have kn0 : ¬ w.heap.size = w7.heap.size := by omega
    have km0 : ¬ w7.heap.size = w.heap.size := by omega
    have kl1 : w.heap.size + 1 < w7.heap.size := by omega
    have kn1 : ¬ w.heap.size + 1 = w7.heap.size := by omega
    have km1 : ¬ w7.heap.size = w.heap.size + 1 := by omega
    have kl2 : w1.heap.size < w7.heap.size := by omega
    have kn2 : ¬ w1.heap.size = w7.heap.size := by omega
    have km2 : ¬ w7.heap.size = w1.heap.size := by omega
    have kl3 : w2.heap.size < w7.heap.size := by omega
    have kn3 : ¬ w2.heap.size = w7.heap.size := by omega
    have km3 : ¬ w7.heap.size = w2.heap.size := by omega
    have kl4 : w3.heap.size < w7.heap.size := by omega
    have kn4 : ¬ w3.heap.size = w7.heap.size := by omega
    have km4 : ¬ w7.heap.size = w3.heap.size := by omega
    have kl5 : w4.heap.size < w7.heap.size := by omega
    have kn5 : ¬ w4.heap.size = w7.heap.size := by omega
    have km5 : ¬ w7.heap.size = w4.heap.size := by omega
    have kl6 : w5.heap.size < w7.heap.size := by omega
    have kn6 : ¬ w5.heap.size = w7.heap.size := by omega
    have km6 : ¬ w7.heap.size = w5.heap.size := by omega
    have kl7 : w6.heap.size < w7.heap.size := by omega
    have kn7 : ¬ w6.heap.size = w7.heap.size := by omega
    have km7 : ¬ w7.heap.size = w6.heap.size := by omega
    have HB := Lib.hid (show Below w.heap.size w w7 from by exact HB.out.trans ((show Below _ _ _ from ((Below.refl _ _).alloc (by omega) _)).trans (hb.mono (by first | omega | (simp <;> omega)))))
    have HR := Lib.hid ((show Room _ (w.heap.size + 1) 4 from (HR.out.alloc (by omega) _)).below hb (by first | omega | (simp <;> omega)))
    clear ho hb
    go_wp2_with fail
    refine (l4twice_any (fTimes a.x (fMirror a.y).1).1.im (fTimes a.x (fMirror a.y).1).1.den (fTimes_rng (fTimes_vld h4).2.2).2.1.1 (fTimes_rng (fTimes_vld h4).2.2).2.1.2 (fTimes_rng (fTimes_vld h4).2.2).2.2.1 (fTimes_rng (fTimes_vld h4).2.2).2.2.2 _).mono ?_
    rintro e w8 ho
    obtain ⟨rfl, hb⟩ := ho.fn
    have kc0 := fun o => hb.cell (p := ⟨w.heap.size, o, none⟩) (by show w.heap.size < _; first | omega | (simp <;> omega))
    have kc1 := fun o => hb.cell (p := ⟨w.heap.size + 1, o, none⟩) (by show w.heap.size + 1 < _; first | omega | (simp <;> omega))
    have kc2 := fun o => hb.cell (p := ⟨w1.heap.size, o, none⟩) (by show w1.heap.size < _; first | omega | (simp <;> omega))
    have kc3 := fun o => hb.cell (p := ⟨w2.heap.size, o, none⟩) (by show w2.heap.size < _; first | omega | (simp <;> omega))
    have kc4 := fun o => hb.cell (p := ⟨w3.heap.size, o, none⟩) (by show w3.heap.size < _; first | omega | (simp <;> omega))
    have kc5 := fun o => hb.cell (p := ⟨w4.heap.size, o, none⟩) (by show w4.heap.size < _; first | omega | (simp <;> omega))
    have kc6 := fun o => hb.cell (p := ⟨w5.heap.size, o, none⟩) (by show w5.heap.size < _; first | omega | (simp <;> omega))
    have kc7 := fun o => hb.cell (p := ⟨w6.heap.size, o, none⟩) (by show w6.heap.size < _; first | omega | (simp <;> omega))
    have kc8 := fun o => hb.cell (p := ⟨w7.heap.size, o, none⟩) (by show w7.heap.size < _; first | omega | (simp <;> omega))
    have kf0 := fun o => hb.frozen (p := ⟨w.heap.size + 1, o, none⟩) (by show w.heap.size + 1 < _; first | omega | (simp <;> omega))
    have hz := hb.size
    (try simp at hz)
    have kl0 : w.heap.size < w8.heap.size := by omega
    have kn0 : ¬ w.heap.size = w8.heap.size := by omega
    have km0 : ¬ w8.heap.size = w.heap.size := by omega
    have kl1 : w.heap.size + 1 < w8.heap.size := by omega
    have kn1 : ¬ w.heap.size + 1 = w8.heap.size := by omega
    have km1 : ¬ w8.heap.size = w.heap.size + 1 := by omega
    have kl2 : w1.heap.size < w8.heap.size := by omega
    have kn2 : ¬ w1.heap.size = w8.heap.size := by omega
    have km2 : ¬ w8.heap.size = w1.heap.size := by omega
    have kl3 : w2.heap.size < w8.heap.size := by omega
    have kn3 : ¬ w2.heap.size = w8.heap.size := by omega
    have km3 : ¬ w8.heap.size = w2.heap.size := by omega
    have kl4 : w3.heap.size < w8.heap.size := by omega
    have kn4 : ¬ w3.heap.size = w8.heap.size := by omega
    have km4 : ¬ w8.heap.size = w3.heap.size := by omega
    have kl5 : w4.heap.size < w8.heap.size := by omega
    have kn5 : ¬ w4.heap.size = w8.heap.size := by omega
    have km5 : ¬ w8.heap.size = w4.heap.size := by omega
    have kl6 : w5.heap.size < w8.heap.size := by omega
    have kn6 : ¬ w5.heap.size = w8.heap.size := by omega
    have km6 : ¬ w8.heap.size = w5.heap.size := by omega
    have kl7 : w6.heap.size < w8.heap.size := by omega
    have kn7 : ¬ w6.heap.size = w8.heap.size := by omega
    have km7 : ¬ w8.heap.size = w6.heap.size := by omega
    have kl8 : w7.heap.size < w8.heap.size := by omega
    have kn8 : ¬ w7.heap.size = w8.heap.size := by omega
    have km8 : ¬ w8.heap.size = w7.heap.size := by omega
    have HB := Lib.hid (show Below w.heap.size w w8 from by exact HB.out.trans ((show Below _ _ _ from ((Below.refl _ _).alloc (by omega) _)).trans (hb.mono (by first | omega | (simp <;> omega)))))
    have HR := Lib.hid ((show Room _ (w.heap.size + 1) 4 from (HR.out.alloc (by omega) _)).below hb (by first | omega | (simp <;> omega)))
    clear ho hb
    go_wp2
    refine bodyPost_ret (v := .tuple #[.agg #[.int .i64 (fAdd (fPower a.x).1 (fPower a.y).1).1.re, .int .i64 (fAdd (fPower a.x).1 (fPower a.y).1).1.im, .int .i64 (fAdd (fPower a.x).1 (fPower a.y).1).1.den, .int .i64 (fLess (fPower a.x).1 (fPower a.y).1).1.re, .int .i64 (fLess (fPower a.x).1 (fPower a.y).1).1.im, .int .i64 (fLess (fPower a.x).1 (fPower a.y).1).1.den, .int .i64 (low (2 * (fTimes a.x (fMirror a.y).1).1.re) 0 (fTimes a.x (fMirror a.y).1).1.den).1.re, .int .i64 (low (2 * (fTimes a.x (fMirror a.y).1).1.re) 0 (fTimes a.x (fMirror a.y).1).1.den).1.im, .int .i64 (low (2 * (fTimes a.x (fMirror a.y).1).1.re) 0 (fTimes a.x (fMirror a.y).1).1.den).1.den, .int .i64 (low (2 * (fTimes a.x (fMirror a.y).1).1.im) 0 (fTimes a.x (fMirror a.y).1).1.den).1.re, .int .i64 (low (2 * (fTimes a.x (fMirror a.y).1).1.im) 0 (fTimes a.x (fMirror a.y).1).1.den).1.im, .int .i64 (low (2 * (fTimes a.x (fMirror a.y).1).1.im) 0 (fTimes a.x (fMirror a.y).1).1.den).1.den], .bool true]) ?_ rfl (M4Out.yes (f := ⟨(fAdd (fPower a.x).1 (fPower a.y).1).1, (fLess (fPower a.x).1 (fPower a.y).1).1, (low (2 * (fTimes a.x (fMirror a.y).1).1.re) 0 (fTimes a.x (fMirror a.y).1).1.den).1, (low (2 * (fTimes a.x (fMirror a.y).1).1.im) 0 (fTimes a.x (fMirror a.y).1).1.den).1⟩) (by rw [HG.out]) (by rw [HG.out]) ?_)
    · exact Eq.trans (results_cell_mid2 Tryd.results126 _ _ (w.heap.size + 1) [.int .i64 (fAdd (fPower a.x).1 (fPower a.y).1).1.re, .int .i64 (fAdd (fPower a.x).1 (fPower a.y).1).1.im, .int .i64 (fAdd (fPower a.x).1 (fPower a.y).1).1.den, .int .i64 (fLess (fPower a.x).1 (fPower a.y).1).1.re, .int .i64 (fLess (fPower a.x).1 (fPower a.y).1).1.im, .int .i64 (fLess (fPower a.x).1 (fPower a.y).1).1.den, .int .i64 (low (2 * (fTimes a.x (fMirror a.y).1).1.re) 0 (fTimes a.x (fMirror a.y).1).1.den).1.re, .int .i64 (low (2 * (fTimes a.x (fMirror a.y).1).1.re) 0 (fTimes a.x (fMirror a.y).1).1.den).1.im, .int .i64 (low (2 * (fTimes a.x (fMirror a.y).1).1.re) 0 (fTimes a.x (fMirror a.y).1).1.den).1.den, .int .i64 (low (2 * (fTimes a.x (fMirror a.y).1).1.im) 0 (fTimes a.x (fMirror a.y).1).1.den).1.re, .int .i64 (low (2 * (fTimes a.x (fMirror a.y).1).1.im) 0 (fTimes a.x (fMirror a.y).1).1.den).1.im, .int .i64 (low (2 * (fTimes a.x (fMirror a.y).1).1.im) 0 (fTimes a.x (fMirror a.y).1).1.den).1.den] _ (by rfl) (by ((repeat' first | (with_reducible refine World.rangeAt_setCells_same _ (w.heap.size + 1) 0 [.int .i64 (fAdd (fPower a.x).1 (fPower a.y).1).1.re, .int .i64 (fAdd (fPower a.x).1 (fPower a.y).1).1.im, .int .i64 (fAdd (fPower a.x).1 (fPower a.y).1).1.den, .int .i64 (fLess (fPower a.x).1 (fPower a.y).1).1.re, .int .i64 (fLess (fPower a.x).1 (fPower a.y).1).1.im, .int .i64 (fLess (fPower a.x).1 (fPower a.y).1).1.den, .int .i64 (low (2 * (fTimes a.x (fMirror a.y).1).1.re) 0 (fTimes a.x (fMirror a.y).1).1.den).1.re, .int .i64 (low (2 * (fTimes a.x (fMirror a.y).1).1.re) 0 (fTimes a.x (fMirror a.y).1).1.den).1.im, .int .i64 (low (2 * (fTimes a.x (fMirror a.y).1).1.re) 0 (fTimes a.x (fMirror a.y).1).1.den).1.den, .int .i64 (low (2 * (fTimes a.x (fMirror a.y).1).1.im) 0 (fTimes a.x (fMirror a.y).1).1.den).1.re, .int .i64 (low (2 * (fTimes a.x (fMirror a.y).1).1.im) 0 (fTimes a.x (fMirror a.y).1).1.den).1.im, .int .i64 (low (2 * (fTimes a.x (fMirror a.y).1).1.im) 0 (fTimes a.x (fMirror a.y).1).1.den).1.den] ?_) | (with_reducible refine World.rangeAt_alloc ?_ _) | (with_reducible refine (World.rangeAt_drew _ _ _ _).2 ?_)); first | exact HR.out.there | (have hh := fun W h => World.rangeAt_setCells_same W (w.heap.size + 1) 0 [.int .i64 (fAdd (fPower a.x).1 (fPower a.y).1).1.re, .int .i64 (fAdd (fPower a.x).1 (fPower a.y).1).1.im, .int .i64 (fAdd (fPower a.x).1 (fPower a.y).1).1.den, .int .i64 (fLess (fPower a.x).1 (fPower a.y).1).1.re, .int .i64 (fLess (fPower a.x).1 (fPower a.y).1).1.im, .int .i64 (fLess (fPower a.x).1 (fPower a.y).1).1.den, .int .i64 (low (2 * (fTimes a.x (fMirror a.y).1).1.re) 0 (fTimes a.x (fMirror a.y).1).1.den).1.re, .int .i64 (low (2 * (fTimes a.x (fMirror a.y).1).1.re) 0 (fTimes a.x (fMirror a.y).1).1.den).1.im, .int .i64 (low (2 * (fTimes a.x (fMirror a.y).1).1.re) 0 (fTimes a.x (fMirror a.y).1).1.den).1.den, .int .i64 (low (2 * (fTimes a.x (fMirror a.y).1).1.im) 0 (fTimes a.x (fMirror a.y).1).1.den).1.re, .int .i64 (low (2 * (fTimes a.x (fMirror a.y).1).1.im) 0 (fTimes a.x (fMirror a.y).1).1.den).1.im, .int .i64 (low (2 * (fTimes a.x (fMirror a.y).1).1.im) 0 (fTimes a.x (fMirror a.y).1).1.den).1.den] h; simp only [World.setCells, Nat.zero_add, Nat.reduceAdd] at hh; exact hh _ HR.out.there))) Tryd.underlying51 rfl (by kernel_rfl)) rfl
    · (repeat' first | (with_reducible exact HB.out) | with_reducible refine setCells_below _ _ _ ?_ (by first | omega | (simp <;> omega)) | with_reducible refine Below.setCell ?_ (by show _ ≤ _; first | omega | (simp <;> omega) | simp) _ | with_reducible refine Below.alloc ?_ (by first | omega | (simp <;> omega)) _ | with_reducible apply Below.drew)
end Go.Proofs.YtmcokdiopcpifaaDoor
