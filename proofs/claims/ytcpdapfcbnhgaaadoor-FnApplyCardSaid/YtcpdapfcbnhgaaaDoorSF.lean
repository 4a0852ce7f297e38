/- Contracts: the four numbers of a vector, the reference's side; parts of fractions, the program's side. -/
import Derived.Test.YtcpdapfcbnhgaaaDoorQ5
import Derived.Test.YtcpdapfcbnhgaaaDoorJ
import Derived.Test.YtcpdapfcbnhgaaaDoorW
namespace Go.Proofs.YtcpdapfcbnhgaaaDoor
open Go.RowKit Pol

set_option maxHeartbeats 2000000 in
theorem sreal_any (b : Nat) (v : Bool) (p : Fr) (w : World) (hb0 : b < w.heap.size) (hc0 : w.cell? ⟨b, 0, none⟩ = some (.bool v)) (hf0 : w.frozen? ⟨b, 0, none⟩ = false) :
    Calls Tryd.prog 61 #[.pointer (some ⟨b, 0, none⟩), .agg #[.int .i64 p.re, .int .i64 p.im, .int .i64 p.den]] w (SmOut b v (fReal p) w) := by
  cases hv : vld p
  · have HG : Hid (fReal p = (fz, false)) := by show _ = _; unfold fReal; rw [hv]; rfl
    have hne : ¬ b = w.heap.size := by omega
    have hne1 : ¬ b = w.heap.size + 1 := by omega
    go_enter Tryd.func61, Tryd.ntmps61
    go_wp2_with (go_at_call 80; (with_reducible refine (valid_fb hv _).mono ?_); rintro e w1 ⟨rfl, hb⟩; obtain ⟨hc, hf, hz⟩ := bcellk (B := w.heap.size + 1 + 1) hb (by first | omega | (simp <;> omega)); have hs1 : Sm b v w w1 := Sm.of_below (by (repeat' first | exact Below.refl _ _ | apply bl_alloc | apply bl_drewN | apply bl_drew | refine bl_trans ?_ (by assumption) | refine bl_set ?_ (by first | omega | (simp <;> omega)) _)) hb0 hc0 hf0; have hsc := hs1.cell; have hsf := hs1.free; clear hb)
    refine bodyPost_ret (v := .agg #[.int .i64 0, .int .i64 0, .int .i64 0]) (by simp [results, Tryd.results61, go_sem, *]) rfl (SmOut.mk (u := true) HG (by show _ = _; simp) rfl ?_)
    repeat' first | exact hs1.set true | refine Sm.setOwn ?_ (by first | omega | (simp <;> omega)) (by assumption) _ | apply Sm.alloc | assumption
  · have HG : Hid (fReal p = low p.re 0 p.den) := by show _ = _; unfold fReal; rw [hv]; rfl
    obtain ⟨v1, v2, v3, -⟩ := (vld_iff p).1 hv
    go_enter Tryd.func61, Tryd.ntmps61
    go_wp2_with (first | (go_at_call 80; (with_reducible refine (valid_fb hv _).mono ?_); rintro e w1 ⟨rfl, hb⟩; obtain ⟨hc, hf, hz⟩ := bcellk (B := w.heap.size + 1 + 1) hb (by first | omega | (simp <;> omega)); have hs1 : Sm b v w w1 := Sm.of_below (by (repeat' first | exact Below.refl _ _ | apply bl_alloc | apply bl_drewN | apply bl_drew | refine bl_trans ?_ (by assumption) | refine bl_set ?_ (by first | omega | (simp <;> omega)) _)) hb0 hc0 hf0; clear hb) | (go_at_call 85; (with_reducible refine (lowest_any _ _ _ (by omega) (by omega) (by omega) (by omega) (by omega) (by omega) _).mono ?_); rintro e w2 ⟨r, ok, H, rfl, hb⟩; have hs2 : Sm b v w w2 := hs1.below hb hb0; obtain ⟨hc, hf, hz⟩ := bcellk (B := w.heap.size + 1 + 1) hb (by first | omega | (simp <;> omega)); clear hb))
    refine (keep_any b v _ _ (by have := low_no p.re 0 p.den; rw [H.out] at this; exact this) _ (by omega) hs2.cell hs2.free).mono ?_
    rintro e w3 ⟨r', ok', u, H', hu, rfl, hs⟩
    obtain ⟨hc', hf', hz3, hsc, hsf⟩ := hs.keepOwn (N := w.heap.size) (B := w.heap.size + 1 + 1) (by assumption) (by first | omega | (simp <;> omega))
    have hr := fun o => hc' (w.heap.size + 1) o (by omega) (by omega)
    have hrf := fun o => hf' (w.heap.size + 1) o (by omega) (by omega)
    clear hc' hf'
    obtain ⟨rfl, rfl⟩ : r = r' ∧ ok = ok' := by have := H'.out; injection this with h1 h2; exact ⟨h1, h2⟩
    clear H'
    have hs3 := hs2.trans hs
    clear hs hs1
    go_wp2
    refine bodyPost_ret (v := .agg #[.int .i64 r.re, .int .i64 r.im, .int .i64 r.den]) (by simp [results, Tryd.results61, go_sem, *]) rfl (SmOut.mk (Lib.hid (HG.out.trans H.out)) hu rfl ?_)
    (repeat' first | assumption | exact Below.refl _ _ | exact Nat.le_refl _ | apply Sm.drewN | apply Sm.alloc | refine Sm.setOwn ?_ (by first | omega | (simp <;> omega)) (by assumption) _ )
set_option maxHeartbeats 2000000 in
theorem simag_any (b : Nat) (v : Bool) (p : Fr) (w : World) (hb0 : b < w.heap.size) (hc0 : w.cell? ⟨b, 0, none⟩ = some (.bool v)) (hf0 : w.frozen? ⟨b, 0, none⟩ = false) :
    Calls Tryd.prog 62 #[.pointer (some ⟨b, 0, none⟩), .agg #[.int .i64 p.re, .int .i64 p.im, .int .i64 p.den]] w (SmOut b v (fImag p) w) := by
  cases hv : vld p
  · have HG : Hid (fImag p = (fz, false)) := by show _ = _; unfold fImag; rw [hv]; rfl
    have hne : ¬ b = w.heap.size := by omega
    have hne1 : ¬ b = w.heap.size + 1 := by omega
    go_enter Tryd.func62, Tryd.ntmps62
    go_wp2_with (go_at_call 80; (with_reducible refine (valid_fb hv _).mono ?_); rintro e w1 ⟨rfl, hb⟩; obtain ⟨hc, hf, hz⟩ := bcellk (B := w.heap.size + 1 + 1) hb (by first | omega | (simp <;> omega)); have hs1 : Sm b v w w1 := Sm.of_below (by (repeat' first | exact Below.refl _ _ | apply bl_alloc | apply bl_drewN | apply bl_drew | refine bl_trans ?_ (by assumption) | refine bl_set ?_ (by first | omega | (simp <;> omega)) _)) hb0 hc0 hf0; have hsc := hs1.cell; have hsf := hs1.free; clear hb)
    refine bodyPost_ret (v := .agg #[.int .i64 0, .int .i64 0, .int .i64 0]) (by simp [results, Tryd.results62, go_sem, *]) rfl (SmOut.mk (u := true) HG (by show _ = _; simp) rfl ?_)
    repeat' first | exact hs1.set true | refine Sm.setOwn ?_ (by first | omega | (simp <;> omega)) (by assumption) _ | apply Sm.alloc | assumption
  · have HG : Hid (fImag p = low p.im 0 p.den) := by show _ = _; unfold fImag; rw [hv]; rfl
    obtain ⟨v1, v2, v3, -⟩ := (vld_iff p).1 hv
    go_enter Tryd.func62, Tryd.ntmps62
    go_wp2_with (first | (go_at_call 80; (with_reducible refine (valid_fb hv _).mono ?_); rintro e w1 ⟨rfl, hb⟩; obtain ⟨hc, hf, hz⟩ := bcellk (B := w.heap.size + 1 + 1) hb (by first | omega | (simp <;> omega)); have hs1 : Sm b v w w1 := Sm.of_below (by (repeat' first | exact Below.refl _ _ | apply bl_alloc | apply bl_drewN | apply bl_drew | refine bl_trans ?_ (by assumption) | refine bl_set ?_ (by first | omega | (simp <;> omega)) _)) hb0 hc0 hf0; clear hb) | (go_at_call 85; (with_reducible refine (lowest_any _ _ _ (by omega) (by omega) (by omega) (by omega) (by omega) (by omega) _).mono ?_); rintro e w2 ⟨r, ok, H, rfl, hb⟩; have hs2 : Sm b v w w2 := hs1.below hb hb0; obtain ⟨hc, hf, hz⟩ := bcellk (B := w.heap.size + 1 + 1) hb (by first | omega | (simp <;> omega)); clear hb))
    refine (keep_any b v _ _ (by have := low_no p.im 0 p.den; rw [H.out] at this; exact this) _ (by omega) hs2.cell hs2.free).mono ?_
    rintro e w3 ⟨r', ok', u, H', hu, rfl, hs⟩
    obtain ⟨hc', hf', hz3, hsc, hsf⟩ := hs.keepOwn (N := w.heap.size) (B := w.heap.size + 1 + 1) (by assumption) (by first | omega | (simp <;> omega))
    have hr := fun o => hc' (w.heap.size + 1) o (by omega) (by omega)
    have hrf := fun o => hf' (w.heap.size + 1) o (by omega) (by omega)
    clear hc' hf'
    obtain ⟨rfl, rfl⟩ : r = r' ∧ ok = ok' := by have := H'.out; injection this with h1 h2; exact ⟨h1, h2⟩
    clear H'
    have hs3 := hs2.trans hs
    clear hs hs1
    go_wp2
    refine bodyPost_ret (v := .agg #[.int .i64 r.re, .int .i64 r.im, .int .i64 r.den]) (by simp [results, Tryd.results62, go_sem, *]) rfl (SmOut.mk (Lib.hid (HG.out.trans H.out)) hu rfl ?_)
    (repeat' first | assumption | exact Below.refl _ _ | exact Nat.le_refl _ | apply Sm.drewN | apply Sm.alloc | refine Sm.setOwn ?_ (by first | omega | (simp <;> omega)) (by assumption) _ )
end Go.Proofs.YtcpdapfcbnhgaaaDoor
