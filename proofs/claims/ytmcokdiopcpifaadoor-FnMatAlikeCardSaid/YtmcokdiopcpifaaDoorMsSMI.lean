/- Contract: alike matrices, the program's side. -/
import Derived.Test.YtmcokdiopcpifaaDoorMsSM
set_option maxRecDepth 100000
namespace Go.Proofs.YtmcokdiopcpifaaDoor
open Go.RowKit Pol
set_option maxRecDepth 100000 in
set_option maxHeartbeats 40000000 in
theorem imal_any (a : M4) (b : M4) (w : World) (hg_zero : Gat w 1 (ixF f0) 1) :
    Calls Tryd.prog 23 #[.agg #[.int .i64 a.a.re, .int .i64 a.a.im, .int .i64 a.a.den, .int .i64 a.b.re, .int .i64 a.b.im, .int .i64 a.b.den, .int .i64 a.c.re, .int .i64 a.c.im, .int .i64 a.c.den, .int .i64 a.d.re, .int .i64 a.d.im, .int .i64 a.d.den], .agg #[.int .i64 b.a.re, .int .i64 b.a.im, .int .i64 b.a.den, .int .i64 b.b.re, .int .i64 b.b.im, .int .i64 b.b.den, .int .i64 b.c.re, .int .i64 b.c.im, .int .i64 b.c.den, .int .i64 b.d.re, .int .i64 b.d.im, .int .i64 b.d.den]] w (fun e w' => e = .returned (.bool (gMAl a b)) ∧ Below w.heap.size w w') := by
  cases h1 : all4 vld a
  · skip
    have HG : Hid (gMAl a b = false) := by show _ = _; unfold gMAl; rw [h1]; rfl
    have HB : Hid (Below w.heap.size w w) := Below.refl _ _
    have hlt_zero := hg_zero.lt
    have Hvzero : Hid (w.rangeAt 1 0 [.int .i64 0, .int .i64 0, .int .i64 1]) := by show World.rangeAt _ _ _ _; exact rangeOf1 hg_zero.box
    have HG_zero := Lib.hid hg_zero; clear hg_zero
    go_enter Tryd.func23, Tryd.ntmps23
    go_wp2_with (first | ((with_reducible refine wpList_load_mid ?kl11 23 ?kl1x ?kl12 (1) 0 ?kl13 [.int .i64 0, .int .i64 0, .int .i64 1] ?kl1d ?kl14 ?kl15 ?kl16 ?kl17 ?kl18); (case kl12 => rfl); (case kl11 => rfl); (case kl13 => rfl); (case kl14 => (exact (World.rangeAt_alloc (World.rangeAt_alloc Hvzero.out _) _))); (case kl15 => exact Tryd.underlying23); (case kl16 => rfl); (case kl17 => kernel_rfl)) | ((with_reducible refine wpList_load_mid ?kl21 23 ?kl2x ?kl22 (1) 0 ?kl23 [.int .i64 0, .int .i64 0, .int .i64 1] ?kl2d ?kl24 ?kl25 ?kl26 ?kl27 ?kl28); (case kl22 => rfl); (case kl21 => rfl); (case kl23 => rfl); (case kl24 => (exact (World.rangeAt_alloc (World.rangeAt_alloc Hvzero.out _) _))); (case kl25 => exact Tryd.underlying23); (case kl26 => rfl); (case kl27 => kernel_rfl)) | ((with_reducible refine wpList_load_mid ?kl31 23 ?kl3x ?kl32 (1) 0 ?kl33 [.int .i64 0, .int .i64 0, .int .i64 1] ?kl3d ?kl34 ?kl35 ?kl36 ?kl37 ?kl38); (case kl32 => rfl); (case kl31 => rfl); (case kl33 => rfl); (case kl34 => (exact (World.rangeAt_alloc (World.rangeAt_alloc Hvzero.out _) _))); (case kl35 => exact Tryd.underlying23); (case kl36 => rfl); (case kl37 => kernel_rfl)) | ((with_reducible refine wpList_load_mid ?kl41 23 ?kl4x ?kl42 (1) 0 ?kl43 [.int .i64 0, .int .i64 0, .int .i64 1] ?kl4d ?kl44 ?kl45 ?kl46 ?kl47 ?kl48); (case kl42 => rfl); (case kl41 => rfl); (case kl43 => rfl); (case kl44 => (exact (World.rangeAt_alloc (World.rangeAt_alloc Hvzero.out _) _))); (case kl45 => exact Tryd.underlying23); (case kl46 => rfl); (case kl47 => kernel_rfl)))
    refine wp_region_held_drew (S := (fun w' => (w'.cell? ⟨w.heap.size, 0, none⟩ = some (.int .i64 a.a.re) ∧ w'.cell? ⟨w.heap.size, 1, none⟩ = some (.int .i64 a.a.im) ∧ w'.cell? ⟨w.heap.size, 2, none⟩ = some (.int .i64 a.a.den) ∧ w'.cell? ⟨w.heap.size, 3, none⟩ = some (.int .i64 a.b.re) ∧ w'.cell? ⟨w.heap.size, 4, none⟩ = some (.int .i64 a.b.im) ∧ w'.cell? ⟨w.heap.size, 5, none⟩ = some (.int .i64 a.b.den) ∧ w'.cell? ⟨w.heap.size, 6, none⟩ = some (.int .i64 a.c.re) ∧ w'.cell? ⟨w.heap.size, 7, none⟩ = some (.int .i64 a.c.im) ∧ w'.cell? ⟨w.heap.size, 8, none⟩ = some (.int .i64 a.c.den) ∧ w'.cell? ⟨w.heap.size, 9, none⟩ = some (.int .i64 a.d.re) ∧ w'.cell? ⟨w.heap.size, 10, none⟩ = some (.int .i64 a.d.im) ∧ w'.cell? ⟨w.heap.size, 11, none⟩ = some (.int .i64 a.d.den)))) (by kernel_rfl) (show _ from (cellsM (show World.rangeAt (World.drew (((w.alloc (.cells #[.int .i64 a.a.re, .int .i64 a.a.im, .int .i64 a.a.den, .int .i64 a.b.re, .int .i64 a.b.im, .int .i64 a.b.den, .int .i64 a.c.re, .int .i64 a.c.im, .int .i64 a.c.den, .int .i64 a.d.re, .int .i64 a.d.im, .int .i64 a.d.den] 41)).alloc (.cells #[.int .i64 b.a.re, .int .i64 b.a.im, .int .i64 b.a.den, .int .i64 b.b.re, .int .i64 b.b.im, .int .i64 b.b.den, .int .i64 b.c.re, .int .i64 b.c.im, .int .i64 b.c.den, .int .i64 b.d.re, .int .i64 b.d.im, .int .i64 b.d.den] 41)).alloc (.cells #[.int .i64 0, .int .i64 0, .int .i64 1, .int .i64 0, .int .i64 0, .int .i64 1, .int .i64 0, .int .i64 0, .int .i64 1, .int .i64 0, .int .i64 0, .int .i64 1] 39))) (w.heap.size) 0 [.int .i64 a.a.re, .int .i64 a.a.im, .int .i64 a.a.den, .int .i64 a.b.re, .int .i64 a.b.im, .int .i64 a.b.den, .int .i64 a.c.re, .int .i64 a.c.im, .int .i64 a.c.den, .int .i64 a.d.re, .int .i64 a.d.im, .int .i64 a.d.den] from (World.rangeAt_alloc (World.rangeAt_alloc (rangeAt_new _ _ _) _) _)))) (fun hHeld => ?_)
    refine wpAnyH_take (i := 0) (v := ?_) rfl (by kernel_rfl) (by kernel_rfl) (by kernel_rfl) (fun _ _ _ h => h) (Or.inl ⟨by rfl, ?_⟩) (by assumption) ?_
    rotate_left
    (focus (intro w hSw; (try dsimp only at hSw); go_simp; (try with_reducible rfl)))
    (try simp only [Act.put, List.getElem_toArray, List.getElem_cons_zero, List.setIfInBounds_toArray, List.set_cons_zero, List.set_cons_succ])
    refine wpAnyH_ready (rs := [1]) (by kernel_rfl) (by simp) ?_
    refine AllReadyH.cons rfl (fun K hK => ?_) AllReadyH.nil
    go_simp
    go_at_call 73
    (with_reducible refine (imatvalid_any a _).mono ?_)
    rintro e w1 ho
    rw [h1] at ho
    obtain ⟨rfl, hb⟩ : e = .returned (.bool false) ∧ Below _ _ _ := (id ho)
    clear ho
    have HB := Lib.hid (show Below w.heap.size w w1 from HB.out.trans ((show Below _ _ _ from (((((Below.refl _ _).alloc (by first | omega | (simp; done) | (simp <;> omega)) _).alloc (by first | omega | (simp; done) | (simp <;> omega)) _).alloc (by first | omega | (simp; done) | (simp <;> omega)) _).drew)).trans (hb.mono (by first | omega | (simp <;> omega)))))
    have Hvzero : Hid (w1.rangeAt (1) 0 [.int .i64 0, .int .i64 0, .int .i64 1]) := rangeAt_below (show World.rangeAt (World.drew (((w.alloc (.cells #[.int .i64 a.a.re, .int .i64 a.a.im, .int .i64 a.a.den, .int .i64 a.b.re, .int .i64 a.b.im, .int .i64 a.b.den, .int .i64 a.c.re, .int .i64 a.c.im, .int .i64 a.c.den, .int .i64 a.d.re, .int .i64 a.d.im, .int .i64 a.d.den] 41)).alloc (.cells #[.int .i64 b.a.re, .int .i64 b.a.im, .int .i64 b.a.den, .int .i64 b.b.re, .int .i64 b.b.im, .int .i64 b.b.den, .int .i64 b.c.re, .int .i64 b.c.im, .int .i64 b.c.den, .int .i64 b.d.re, .int .i64 b.d.im, .int .i64 b.d.den] 41)).alloc (.cells #[.int .i64 0, .int .i64 0, .int .i64 1, .int .i64 0, .int .i64 0, .int .i64 1, .int .i64 0, .int .i64 0, .int .i64 1, .int .i64 0, .int .i64 0, .int .i64 1] 39))) (1) 0 [.int .i64 0, .int .i64 0, .int .i64 1] from (World.rangeAt_alloc (World.rangeAt_alloc (World.rangeAt_alloc Hvzero.out _) _) _)) hb (by first | omega | (simp; done) | (simp <;> omega))
    have Ha : Hid (w1.rangeAt (w.heap.size) 0 [.int .i64 a.a.re, .int .i64 a.a.im, .int .i64 a.a.den, .int .i64 a.b.re, .int .i64 a.b.im, .int .i64 a.b.den, .int .i64 a.c.re, .int .i64 a.c.im, .int .i64 a.c.den, .int .i64 a.d.re, .int .i64 a.d.im, .int .i64 a.d.den]) := rangeAt_below (show World.rangeAt (World.drew (((w.alloc (.cells #[.int .i64 a.a.re, .int .i64 a.a.im, .int .i64 a.a.den, .int .i64 a.b.re, .int .i64 a.b.im, .int .i64 a.b.den, .int .i64 a.c.re, .int .i64 a.c.im, .int .i64 a.c.den, .int .i64 a.d.re, .int .i64 a.d.im, .int .i64 a.d.den] 41)).alloc (.cells #[.int .i64 b.a.re, .int .i64 b.a.im, .int .i64 b.a.den, .int .i64 b.b.re, .int .i64 b.b.im, .int .i64 b.b.den, .int .i64 b.c.re, .int .i64 b.c.im, .int .i64 b.c.den, .int .i64 b.d.re, .int .i64 b.d.im, .int .i64 b.d.den] 41)).alloc (.cells #[.int .i64 0, .int .i64 0, .int .i64 1, .int .i64 0, .int .i64 0, .int .i64 1, .int .i64 0, .int .i64 0, .int .i64 1, .int .i64 0, .int .i64 0, .int .i64 1] 39))) (w.heap.size) 0 [.int .i64 a.a.re, .int .i64 a.a.im, .int .i64 a.a.den, .int .i64 a.b.re, .int .i64 a.b.im, .int .i64 a.b.den, .int .i64 a.c.re, .int .i64 a.c.im, .int .i64 a.c.den, .int .i64 a.d.re, .int .i64 a.d.im, .int .i64 a.d.den] from (World.rangeAt_alloc (World.rangeAt_alloc (rangeAt_new _ _ _) _) _)) hb (by first | omega | (simp; done) | (simp <;> omega))
    have Hb : Hid (w1.rangeAt (w.heap.size + 1) 0 [.int .i64 b.a.re, .int .i64 b.a.im, .int .i64 b.a.den, .int .i64 b.b.re, .int .i64 b.b.im, .int .i64 b.b.den, .int .i64 b.c.re, .int .i64 b.c.im, .int .i64 b.c.den, .int .i64 b.d.re, .int .i64 b.d.im, .int .i64 b.d.den]) := rangeAt_below (show World.rangeAt (World.drew (((w.alloc (.cells #[.int .i64 a.a.re, .int .i64 a.a.im, .int .i64 a.a.den, .int .i64 a.b.re, .int .i64 a.b.im, .int .i64 a.b.den, .int .i64 a.c.re, .int .i64 a.c.im, .int .i64 a.c.den, .int .i64 a.d.re, .int .i64 a.d.im, .int .i64 a.d.den] 41)).alloc (.cells #[.int .i64 b.a.re, .int .i64 b.a.im, .int .i64 b.a.den, .int .i64 b.b.re, .int .i64 b.b.im, .int .i64 b.b.den, .int .i64 b.c.re, .int .i64 b.c.im, .int .i64 b.c.den, .int .i64 b.d.re, .int .i64 b.d.im, .int .i64 b.d.den] 41)).alloc (.cells #[.int .i64 0, .int .i64 0, .int .i64 1, .int .i64 0, .int .i64 0, .int .i64 1, .int .i64 0, .int .i64 0, .int .i64 1, .int .i64 0, .int .i64 0, .int .i64 1] 39))) (w.heap.size + 1) 0 [.int .i64 b.a.re, .int .i64 b.a.im, .int .i64 b.a.den, .int .i64 b.b.re, .int .i64 b.b.im, .int .i64 b.b.den, .int .i64 b.c.re, .int .i64 b.c.im, .int .i64 b.c.den, .int .i64 b.d.re, .int .i64 b.d.im, .int .i64 b.d.den] from (World.rangeAt_alloc (rangeAt_nw (by simp)) _)) hb (by first | omega | (simp; done) | (simp <;> omega))
    have Hnn : Hid (w1.rangeAt (w.heap.size + 1 + 1) 0 [.int .i64 0, .int .i64 0, .int .i64 1, .int .i64 0, .int .i64 0, .int .i64 1, .int .i64 0, .int .i64 0, .int .i64 1, .int .i64 0, .int .i64 0, .int .i64 1]) := rangeAt_below (show World.rangeAt (World.drew (((w.alloc (.cells #[.int .i64 a.a.re, .int .i64 a.a.im, .int .i64 a.a.den, .int .i64 a.b.re, .int .i64 a.b.im, .int .i64 a.b.den, .int .i64 a.c.re, .int .i64 a.c.im, .int .i64 a.c.den, .int .i64 a.d.re, .int .i64 a.d.im, .int .i64 a.d.den] 41)).alloc (.cells #[.int .i64 b.a.re, .int .i64 b.a.im, .int .i64 b.a.den, .int .i64 b.b.re, .int .i64 b.b.im, .int .i64 b.b.den, .int .i64 b.c.re, .int .i64 b.c.im, .int .i64 b.c.den, .int .i64 b.d.re, .int .i64 b.d.im, .int .i64 b.d.den] 41)).alloc (.cells #[.int .i64 0, .int .i64 0, .int .i64 1, .int .i64 0, .int .i64 0, .int .i64 1, .int .i64 0, .int .i64 0, .int .i64 1, .int .i64 0, .int .i64 0, .int .i64 1] 39))) (w.heap.size + 1 + 1) 0 [.int .i64 0, .int .i64 0, .int .i64 1, .int .i64 0, .int .i64 0, .int .i64 1, .int .i64 0, .int .i64 0, .int .i64 1, .int .i64 0, .int .i64 0, .int .i64 1] from (rangeAt_nw (by simp))) hb (by first | omega | (simp; done) | (simp <;> omega))
    have hz1 := hb.size
    (try simp at hz1)
    clear hb
    have hne1 : ¬ w1.heap = #[] := fun h => absurd (show 1 < 0 from (by have hh : 1 < w1.heap.size := (by omega); rw [h] at hh; exact hh)) (Nat.not_lt_zero _)
    have nA0 : 1 < w1.heap.size := by omega
    have nB0 : ¬ 1 = w1.heap.size := by omega
    have nC0 : ¬ w1.heap.size = 1 := by omega
    have nA1 : w.heap.size < w1.heap.size := by omega
    have nB1 : ¬ w.heap.size = w1.heap.size := by omega
    have nC1 : ¬ w1.heap.size = w.heap.size := by omega
    have nA2 : w.heap.size + 1 < w1.heap.size := by omega
    have nB2 : ¬ w.heap.size + 1 = w1.heap.size := by omega
    have nC2 : ¬ w1.heap.size = w.heap.size + 1 := by omega
    have nA3 : w.heap.size + 1 + 1 < w1.heap.size := by omega
    have nB3 : ¬ w.heap.size + 1 + 1 = w1.heap.size := by omega
    have nC3 : ¬ w1.heap.size = w.heap.size + 1 + 1 := by omega
    refine hK.out _ _ (show _ from (cellsM Ha.out)) (fun hHeld => ?_)
    clear hK K
    (try simp only [Act.put, List.getElem_toArray, List.getElem_cons_succ, List.getElem_cons_zero, List.setIfInBounds_toArray, List.set_cons_zero, List.set_cons_succ])
    refine wpAnyH_take (i := 2) (v := ?_) rfl (by kernel_rfl) (by kernel_rfl) (by kernel_rfl) (fun _ _ _ h => h) (Or.inl ⟨by rfl, ?_⟩) (by assumption) ?_
    rotate_left
    (focus (intro w hSw; (try dsimp only at hSw); go_simp; (try with_reducible rfl)))
    (try simp only [Act.put, List.getElem_toArray, List.getElem_cons_succ, List.getElem_cons_zero, List.setIfInBounds_toArray, List.set_cons_zero, List.set_cons_succ])
    refine wpAnyH_take (i := 3) rfl (by kernel_rfl) (by kernel_rfl) (by kernel_rfl) (fun _ _ _ h => h) (Or.inr ⟨by rfl, rfl⟩) (by assumption) ?_
    (try simp only [Act.put, List.getElem_toArray, List.getElem_cons_succ, List.getElem_cons_zero, List.setIfInBounds_toArray, List.set_cons_zero, List.set_cons_succ])
    refine wpAnyH_take (i := 4) rfl (by kernel_rfl) (by kernel_rfl) (by kernel_rfl) (fun _ _ _ h => h) (Or.inr ⟨by rfl, rfl⟩) (by assumption) ?_
    (try simp only [Act.put, List.getElem_toArray, List.getElem_cons_succ, List.getElem_cons_zero, List.setIfInBounds_toArray, List.set_cons_zero, List.set_cons_succ])
    refine wpAnyH_take (i := 5) (v := ?_) rfl (by kernel_rfl) (by kernel_rfl) (by kernel_rfl) (fun _ _ _ h => h) (Or.inl ⟨by rfl, ?_⟩) (by assumption) ?_
    rotate_left
    (focus (intro w hSw; (try dsimp only at hSw); go_simp; (try with_reducible rfl)))
    (try simp only [Act.put, List.getElem_toArray, List.getElem_cons_succ, List.getElem_cons_zero, List.setIfInBounds_toArray, List.set_cons_zero, List.set_cons_succ])
    refine wpAnyH_take (i := 6) (v := ?_) rfl (by kernel_rfl) (by kernel_rfl) (by kernel_rfl) (fun _ _ _ h => h) (Or.inl ⟨by rfl, ?_⟩) (by assumption) ?_
    rotate_left
    (focus (intro w hSw; (try dsimp only at hSw); go_simp; (try with_reducible rfl)))
    (try simp only [Act.put, List.getElem_toArray, List.getElem_cons_succ, List.getElem_cons_zero, List.setIfInBounds_toArray, List.set_cons_zero, List.set_cons_succ])
    refine wpAnyH_take (i := 7) rfl (by kernel_rfl) (by kernel_rfl) (by kernel_rfl) (fun _ _ _ h => h) (Or.inr ⟨by rfl, rfl⟩) (by assumption) ?_
    (try simp only [Act.put, List.getElem_toArray, List.getElem_cons_succ, List.getElem_cons_zero, List.setIfInBounds_toArray, List.set_cons_zero, List.set_cons_succ])
    refine wpAnyH_take (i := 8) rfl (by kernel_rfl) (by kernel_rfl) (by kernel_rfl) (fun _ _ _ h => h) (Or.inr ⟨by rfl, rfl⟩) (by assumption) ?_
    (try simp only [Act.put, List.getElem_toArray, List.getElem_cons_succ, List.getElem_cons_zero, List.setIfInBounds_toArray, List.set_cons_zero, List.set_cons_succ])
    refine wpAnyH_take (i := 9) rfl (by kernel_rfl) (by kernel_rfl) (by kernel_rfl) (fun _ _ _ h => h) (Or.inr ⟨by rfl, rfl⟩) (by assumption) ?_
    (try simp only [Act.put, List.getElem_toArray, List.getElem_cons_succ, List.getElem_cons_zero, List.setIfInBounds_toArray, List.set_cons_zero, List.set_cons_succ])
    refine wpAnyH_take (i := 10) rfl (by kernel_rfl) (by kernel_rfl) (by kernel_rfl) (fun _ _ _ h => h) (Or.inr ⟨by rfl, rfl⟩) (by assumption) ?_
    (try simp only [Act.put, List.getElem_toArray, List.getElem_cons_succ, List.getElem_cons_zero, List.setIfInBounds_toArray, List.set_cons_zero, List.set_cons_succ])
    refine wpAnyH_take (i := 11) rfl (by kernel_rfl) (by kernel_rfl) (by kernel_rfl) (fun _ _ _ h => h) (Or.inr ⟨by rfl, rfl⟩) (by assumption) ?_
    (try simp only [Act.put, List.getElem_toArray, List.getElem_cons_succ, List.getElem_cons_zero, List.setIfInBounds_toArray, List.set_cons_zero, List.set_cons_succ])
    refine wpAnyH_take (i := 12) (v := ?_) rfl (by kernel_rfl) (by kernel_rfl) (by kernel_rfl) (fun _ _ _ h => h) (Or.inl ⟨by rfl, ?_⟩) (by assumption) ?_
    rotate_left
    (focus (intro w hSw; (try dsimp only at hSw); go_simp; (try with_reducible rfl)))
    (try simp only [Act.put, List.getElem_toArray, List.getElem_cons_succ, List.getElem_cons_zero, List.setIfInBounds_toArray, List.set_cons_zero, List.set_cons_succ])
    refine wpAnyH_take (i := 13) (v := ?_) rfl (by kernel_rfl) (by kernel_rfl) (by kernel_rfl) (fun _ _ _ h => h) (Or.inl ⟨by rfl, ?_⟩) (by assumption) ?_
    rotate_left
    (focus (intro w hSw; (try dsimp only at hSw); go_simp; (try with_reducible rfl)))
    (try simp only [Act.put, List.getElem_toArray, List.getElem_cons_succ, List.getElem_cons_zero, List.setIfInBounds_toArray, List.set_cons_zero, List.set_cons_succ])
    refine wpAnyH_take (i := 14) rfl (by kernel_rfl) (by kernel_rfl) (by kernel_rfl) (fun _ _ _ h => h) (Or.inr ⟨by rfl, rfl⟩) (by assumption) ?_
    (try simp only [Act.put, List.getElem_toArray, List.getElem_cons_succ, List.getElem_cons_zero, List.setIfInBounds_toArray, List.set_cons_zero, List.set_cons_succ])
    refine wpAnyH_take (i := 15) rfl (by kernel_rfl) (by kernel_rfl) (by kernel_rfl) (fun _ _ _ h => h) (Or.inr ⟨by rfl, rfl⟩) (by assumption) ?_
    (try simp only [Act.put, List.getElem_toArray, List.getElem_cons_succ, List.getElem_cons_zero, List.setIfInBounds_toArray, List.set_cons_zero, List.set_cons_succ])
    refine wpAnyH_take (i := 16) rfl (by kernel_rfl) (by kernel_rfl) (by kernel_rfl) (fun _ _ _ h => h) (Or.inr ⟨by rfl, rfl⟩) (by assumption) ?_
    (try simp only [Act.put, List.getElem_toArray, List.getElem_cons_succ, List.getElem_cons_zero, List.setIfInBounds_toArray, List.set_cons_zero, List.set_cons_succ])
    refine wpAnyH_take (i := 17) rfl (by kernel_rfl) (by kernel_rfl) (by kernel_rfl) (fun _ _ _ h => h) (Or.inr ⟨by rfl, rfl⟩) (by assumption) ?_
    (try simp only [Act.put, List.getElem_toArray, List.getElem_cons_succ, List.getElem_cons_zero, List.setIfInBounds_toArray, List.set_cons_zero, List.set_cons_succ])
    refine wpAnyH_take (i := 18) rfl (by kernel_rfl) (by kernel_rfl) (by kernel_rfl) (fun _ _ _ h => h) (Or.inr ⟨by rfl, rfl⟩) (by assumption) ?_
    (try simp only [Act.put, List.getElem_toArray, List.getElem_cons_succ, List.getElem_cons_zero, List.setIfInBounds_toArray, List.set_cons_zero, List.set_cons_succ])
    refine wpAnyH_take (i := 19) rfl (by kernel_rfl) (by kernel_rfl) (by kernel_rfl) (fun _ _ _ h => h) (Or.inr ⟨by rfl, rfl⟩) (by assumption) ?_
    (try simp only [Act.put, List.getElem_toArray, List.getElem_cons_succ, List.getElem_cons_zero, List.setIfInBounds_toArray, List.set_cons_zero, List.set_cons_succ])
    refine wpAnyH_take (i := 20) rfl (by kernel_rfl) (by kernel_rfl) (by kernel_rfl) (fun _ _ _ h => h) (Or.inr ⟨by rfl, rfl⟩) (by assumption) ?_
    (try simp only [Act.put, List.getElem_toArray, List.getElem_cons_succ, List.getElem_cons_zero, List.setIfInBounds_toArray, List.set_cons_zero, List.set_cons_succ])
    refine wpAnyH_take (i := 21) rfl (by kernel_rfl) (by kernel_rfl) (by kernel_rfl) (fun _ _ _ h => h) (Or.inr ⟨by rfl, rfl⟩) (by assumption) ?_
    (try simp only [Act.put, List.getElem_toArray, List.getElem_cons_succ, List.getElem_cons_zero, List.setIfInBounds_toArray, List.set_cons_zero, List.set_cons_succ])
    refine wpAnyH_take (i := 22) rfl (by kernel_rfl) (by kernel_rfl) (by kernel_rfl) (fun _ _ _ h => h) (Or.inr ⟨by rfl, rfl⟩) (by assumption) ?_
    (try simp only [Act.put, List.getElem_toArray, List.getElem_cons_succ, List.getElem_cons_zero, List.setIfInBounds_toArray, List.set_cons_zero, List.set_cons_succ])
    refine wpAnyH_take (i := 23) (v := ?_) rfl (by kernel_rfl) (by kernel_rfl) (by kernel_rfl) (fun _ _ _ h => h) (Or.inl ⟨by rfl, ?_⟩) (by assumption) ?_
    rotate_left
    (focus (intro w hSw; (try dsimp only at hSw); go_simp; (try with_reducible rfl)))
    (try simp only [Act.put, List.getElem_toArray, List.getElem_cons_succ, List.getElem_cons_zero, List.setIfInBounds_toArray, List.set_cons_zero, List.set_cons_succ])
    refine wpAnyH_take (i := 24) (v := ?_) rfl (by kernel_rfl) (by kernel_rfl) (by kernel_rfl) (fun _ _ _ h => h) (Or.inl ⟨by rfl, ?_⟩) (by assumption) ?_
    rotate_left
    (focus (intro w hSw; (try dsimp only at hSw); go_simp; (try with_reducible rfl)))
    (try simp only [Act.put, List.getElem_toArray, List.getElem_cons_succ, List.getElem_cons_zero, List.setIfInBounds_toArray, List.set_cons_zero, List.set_cons_succ])
    refine wpAnyH_done (by kernel_rfl) ?_ _
    clear hHeld
    go_wp2_with fail
    go_ret
    exact ⟨by rw [HG.out]; rfl, (by (repeat' first | (with_reducible exact HB.out) | with_reducible refine setCells_below _ _ _ ?_ (by first | omega | (simp <;> omega)) | with_reducible refine Below.setCell ?_ (by show _ ≤ _; first | omega | (simp <;> omega) | simp) _ | with_reducible refine Below.alloc ?_ (by first | omega | (simp <;> omega)) _ | with_reducible apply Below.drew | with_reducible refine below_drewN ?_ _))⟩
  · skip
    cases h2 : all4 vld b
    · skip
      have HG : Hid (gMAl a b = false) := by show _ = _; unfold gMAl; rw [h1, h2]; rfl
      have HB : Hid (Below w.heap.size w w) := Below.refl _ _
      have hlt_zero := hg_zero.lt
      have Hvzero : Hid (w.rangeAt 1 0 [.int .i64 0, .int .i64 0, .int .i64 1]) := by show World.rangeAt _ _ _ _; exact rangeOf1 hg_zero.box
      have HG_zero := Lib.hid hg_zero; clear hg_zero
      go_enter Tryd.func23, Tryd.ntmps23
      go_wp2_with (first | ((with_reducible refine wpList_load_mid ?kl51 23 ?kl5x ?kl52 (1) 0 ?kl53 [.int .i64 0, .int .i64 0, .int .i64 1] ?kl5d ?kl54 ?kl55 ?kl56 ?kl57 ?kl58); (case kl52 => rfl); (case kl51 => rfl); (case kl53 => rfl); (case kl54 => (exact (World.rangeAt_alloc (World.rangeAt_alloc Hvzero.out _) _))); (case kl55 => exact Tryd.underlying23); (case kl56 => rfl); (case kl57 => kernel_rfl)) | ((with_reducible refine wpList_load_mid ?kl61 23 ?kl6x ?kl62 (1) 0 ?kl63 [.int .i64 0, .int .i64 0, .int .i64 1] ?kl6d ?kl64 ?kl65 ?kl66 ?kl67 ?kl68); (case kl62 => rfl); (case kl61 => rfl); (case kl63 => rfl); (case kl64 => (exact (World.rangeAt_alloc (World.rangeAt_alloc Hvzero.out _) _))); (case kl65 => exact Tryd.underlying23); (case kl66 => rfl); (case kl67 => kernel_rfl)) | ((with_reducible refine wpList_load_mid ?kl71 23 ?kl7x ?kl72 (1) 0 ?kl73 [.int .i64 0, .int .i64 0, .int .i64 1] ?kl7d ?kl74 ?kl75 ?kl76 ?kl77 ?kl78); (case kl72 => rfl); (case kl71 => rfl); (case kl73 => rfl); (case kl74 => (exact (World.rangeAt_alloc (World.rangeAt_alloc Hvzero.out _) _))); (case kl75 => exact Tryd.underlying23); (case kl76 => rfl); (case kl77 => kernel_rfl)) | ((with_reducible refine wpList_load_mid ?kl81 23 ?kl8x ?kl82 (1) 0 ?kl83 [.int .i64 0, .int .i64 0, .int .i64 1] ?kl8d ?kl84 ?kl85 ?kl86 ?kl87 ?kl88); (case kl82 => rfl); (case kl81 => rfl); (case kl83 => rfl); (case kl84 => (exact (World.rangeAt_alloc (World.rangeAt_alloc Hvzero.out _) _))); (case kl85 => exact Tryd.underlying23); (case kl86 => rfl); (case kl87 => kernel_rfl)))
      refine wp_region_held_drew (S := (fun w' => (w'.cell? ⟨w.heap.size, 0, none⟩ = some (.int .i64 a.a.re) ∧ w'.cell? ⟨w.heap.size, 1, none⟩ = some (.int .i64 a.a.im) ∧ w'.cell? ⟨w.heap.size, 2, none⟩ = some (.int .i64 a.a.den) ∧ w'.cell? ⟨w.heap.size, 3, none⟩ = some (.int .i64 a.b.re) ∧ w'.cell? ⟨w.heap.size, 4, none⟩ = some (.int .i64 a.b.im) ∧ w'.cell? ⟨w.heap.size, 5, none⟩ = some (.int .i64 a.b.den) ∧ w'.cell? ⟨w.heap.size, 6, none⟩ = some (.int .i64 a.c.re) ∧ w'.cell? ⟨w.heap.size, 7, none⟩ = some (.int .i64 a.c.im) ∧ w'.cell? ⟨w.heap.size, 8, none⟩ = some (.int .i64 a.c.den) ∧ w'.cell? ⟨w.heap.size, 9, none⟩ = some (.int .i64 a.d.re) ∧ w'.cell? ⟨w.heap.size, 10, none⟩ = some (.int .i64 a.d.im) ∧ w'.cell? ⟨w.heap.size, 11, none⟩ = some (.int .i64 a.d.den)) ∧ (w'.cell? ⟨w.heap.size + 1, 0, none⟩ = some (.int .i64 b.a.re) ∧ w'.cell? ⟨w.heap.size + 1, 1, none⟩ = some (.int .i64 b.a.im) ∧ w'.cell? ⟨w.heap.size + 1, 2, none⟩ = some (.int .i64 b.a.den) ∧ w'.cell? ⟨w.heap.size + 1, 3, none⟩ = some (.int .i64 b.b.re) ∧ w'.cell? ⟨w.heap.size + 1, 4, none⟩ = some (.int .i64 b.b.im) ∧ w'.cell? ⟨w.heap.size + 1, 5, none⟩ = some (.int .i64 b.b.den) ∧ w'.cell? ⟨w.heap.size + 1, 6, none⟩ = some (.int .i64 b.c.re) ∧ w'.cell? ⟨w.heap.size + 1, 7, none⟩ = some (.int .i64 b.c.im) ∧ w'.cell? ⟨w.heap.size + 1, 8, none⟩ = some (.int .i64 b.c.den) ∧ w'.cell? ⟨w.heap.size + 1, 9, none⟩ = some (.int .i64 b.d.re) ∧ w'.cell? ⟨w.heap.size + 1, 10, none⟩ = some (.int .i64 b.d.im) ∧ w'.cell? ⟨w.heap.size + 1, 11, none⟩ = some (.int .i64 b.d.den)))) (by kernel_rfl) (show _ from ⟨(cellsM (show World.rangeAt (World.drew (((w.alloc (.cells #[.int .i64 a.a.re, .int .i64 a.a.im, .int .i64 a.a.den, .int .i64 a.b.re, .int .i64 a.b.im, .int .i64 a.b.den, .int .i64 a.c.re, .int .i64 a.c.im, .int .i64 a.c.den, .int .i64 a.d.re, .int .i64 a.d.im, .int .i64 a.d.den] 41)).alloc (.cells #[.int .i64 b.a.re, .int .i64 b.a.im, .int .i64 b.a.den, .int .i64 b.b.re, .int .i64 b.b.im, .int .i64 b.b.den, .int .i64 b.c.re, .int .i64 b.c.im, .int .i64 b.c.den, .int .i64 b.d.re, .int .i64 b.d.im, .int .i64 b.d.den] 41)).alloc (.cells #[.int .i64 0, .int .i64 0, .int .i64 1, .int .i64 0, .int .i64 0, .int .i64 1, .int .i64 0, .int .i64 0, .int .i64 1, .int .i64 0, .int .i64 0, .int .i64 1] 39))) (w.heap.size) 0 [.int .i64 a.a.re, .int .i64 a.a.im, .int .i64 a.a.den, .int .i64 a.b.re, .int .i64 a.b.im, .int .i64 a.b.den, .int .i64 a.c.re, .int .i64 a.c.im, .int .i64 a.c.den, .int .i64 a.d.re, .int .i64 a.d.im, .int .i64 a.d.den] from (World.rangeAt_alloc (World.rangeAt_alloc (rangeAt_new _ _ _) _) _))), (cellsM (show World.rangeAt (World.drew (((w.alloc (.cells #[.int .i64 a.a.re, .int .i64 a.a.im, .int .i64 a.a.den, .int .i64 a.b.re, .int .i64 a.b.im, .int .i64 a.b.den, .int .i64 a.c.re, .int .i64 a.c.im, .int .i64 a.c.den, .int .i64 a.d.re, .int .i64 a.d.im, .int .i64 a.d.den] 41)).alloc (.cells #[.int .i64 b.a.re, .int .i64 b.a.im, .int .i64 b.a.den, .int .i64 b.b.re, .int .i64 b.b.im, .int .i64 b.b.den, .int .i64 b.c.re, .int .i64 b.c.im, .int .i64 b.c.den, .int .i64 b.d.re, .int .i64 b.d.im, .int .i64 b.d.den] 41)).alloc (.cells #[.int .i64 0, .int .i64 0, .int .i64 1, .int .i64 0, .int .i64 0, .int .i64 1, .int .i64 0, .int .i64 0, .int .i64 1, .int .i64 0, .int .i64 0, .int .i64 1] 39))) (w.heap.size + 1) 0 [.int .i64 b.a.re, .int .i64 b.a.im, .int .i64 b.a.den, .int .i64 b.b.re, .int .i64 b.b.im, .int .i64 b.b.den, .int .i64 b.c.re, .int .i64 b.c.im, .int .i64 b.c.den, .int .i64 b.d.re, .int .i64 b.d.im, .int .i64 b.d.den] from (World.rangeAt_alloc (rangeAt_nw (by simp)) _)))⟩) (fun hHeld => ?_)
      refine wpAnyH_take (i := 0) (v := ?_) rfl (by kernel_rfl) (by kernel_rfl) (by kernel_rfl) (fun _ _ _ h => h) (Or.inl ⟨by rfl, ?_⟩) (by assumption) ?_
      rotate_left
      (focus (intro w hSw; (try dsimp only at hSw); go_simp; (try with_reducible rfl)))
      (try simp only [Act.put, List.getElem_toArray, List.getElem_cons_zero, List.setIfInBounds_toArray, List.set_cons_zero, List.set_cons_succ])
      refine wpAnyH_ready (rs := [1]) (by kernel_rfl) (by simp) ?_
      refine AllReadyH.cons rfl (fun K hK => ?_) AllReadyH.nil
      go_simp
      go_at_call 73
      (with_reducible refine (imatvalid_any a _).mono ?_)
      rintro e w1 ho
      rw [h1] at ho
      obtain ⟨rfl, hb⟩ : e = .returned (.bool true) ∧ Below _ _ _ := (id ho)
      clear ho
      have HB := Lib.hid (show Below w.heap.size w w1 from HB.out.trans ((show Below _ _ _ from (((((Below.refl _ _).alloc (by first | omega | (simp; done) | (simp <;> omega)) _).alloc (by first | omega | (simp; done) | (simp <;> omega)) _).alloc (by first | omega | (simp; done) | (simp <;> omega)) _).drew)).trans (hb.mono (by first | omega | (simp <;> omega)))))
      have Hvzero : Hid (w1.rangeAt (1) 0 [.int .i64 0, .int .i64 0, .int .i64 1]) := rangeAt_below (show World.rangeAt (World.drew (((w.alloc (.cells #[.int .i64 a.a.re, .int .i64 a.a.im, .int .i64 a.a.den, .int .i64 a.b.re, .int .i64 a.b.im, .int .i64 a.b.den, .int .i64 a.c.re, .int .i64 a.c.im, .int .i64 a.c.den, .int .i64 a.d.re, .int .i64 a.d.im, .int .i64 a.d.den] 41)).alloc (.cells #[.int .i64 b.a.re, .int .i64 b.a.im, .int .i64 b.a.den, .int .i64 b.b.re, .int .i64 b.b.im, .int .i64 b.b.den, .int .i64 b.c.re, .int .i64 b.c.im, .int .i64 b.c.den, .int .i64 b.d.re, .int .i64 b.d.im, .int .i64 b.d.den] 41)).alloc (.cells #[.int .i64 0, .int .i64 0, .int .i64 1, .int .i64 0, .int .i64 0, .int .i64 1, .int .i64 0, .int .i64 0, .int .i64 1, .int .i64 0, .int .i64 0, .int .i64 1] 39))) (1) 0 [.int .i64 0, .int .i64 0, .int .i64 1] from (World.rangeAt_alloc (World.rangeAt_alloc (World.rangeAt_alloc Hvzero.out _) _) _)) hb (by first | omega | (simp; done) | (simp <;> omega))
      have Ha : Hid (w1.rangeAt (w.heap.size) 0 [.int .i64 a.a.re, .int .i64 a.a.im, .int .i64 a.a.den, .int .i64 a.b.re, .int .i64 a.b.im, .int .i64 a.b.den, .int .i64 a.c.re, .int .i64 a.c.im, .int .i64 a.c.den, .int .i64 a.d.re, .int .i64 a.d.im, .int .i64 a.d.den]) := rangeAt_below (show World.rangeAt (World.drew (((w.alloc (.cells #[.int .i64 a.a.re, .int .i64 a.a.im, .int .i64 a.a.den, .int .i64 a.b.re, .int .i64 a.b.im, .int .i64 a.b.den, .int .i64 a.c.re, .int .i64 a.c.im, .int .i64 a.c.den, .int .i64 a.d.re, .int .i64 a.d.im, .int .i64 a.d.den] 41)).alloc (.cells #[.int .i64 b.a.re, .int .i64 b.a.im, .int .i64 b.a.den, .int .i64 b.b.re, .int .i64 b.b.im, .int .i64 b.b.den, .int .i64 b.c.re, .int .i64 b.c.im, .int .i64 b.c.den, .int .i64 b.d.re, .int .i64 b.d.im, .int .i64 b.d.den] 41)).alloc (.cells #[.int .i64 0, .int .i64 0, .int .i64 1, .int .i64 0, .int .i64 0, .int .i64 1, .int .i64 0, .int .i64 0, .int .i64 1, .int .i64 0, .int .i64 0, .int .i64 1] 39))) (w.heap.size) 0 [.int .i64 a.a.re, .int .i64 a.a.im, .int .i64 a.a.den, .int .i64 a.b.re, .int .i64 a.b.im, .int .i64 a.b.den, .int .i64 a.c.re, .int .i64 a.c.im, .int .i64 a.c.den, .int .i64 a.d.re, .int .i64 a.d.im, .int .i64 a.d.den] from (World.rangeAt_alloc (World.rangeAt_alloc (rangeAt_new _ _ _) _) _)) hb (by first | omega | (simp; done) | (simp <;> omega))
      have Hb : Hid (w1.rangeAt (w.heap.size + 1) 0 [.int .i64 b.a.re, .int .i64 b.a.im, .int .i64 b.a.den, .int .i64 b.b.re, .int .i64 b.b.im, .int .i64 b.b.den, .int .i64 b.c.re, .int .i64 b.c.im, .int .i64 b.c.den, .int .i64 b.d.re, .int .i64 b.d.im, .int .i64 b.d.den]) := rangeAt_below (show World.rangeAt (World.drew (((w.alloc (.cells #[.int .i64 a.a.re, .int .i64 a.a.im, .int .i64 a.a.den, .int .i64 a.b.re, .int .i64 a.b.im, .int .i64 a.b.den, .int .i64 a.c.re, .int .i64 a.c.im, .int .i64 a.c.den, .int .i64 a.d.re, .int .i64 a.d.im, .int .i64 a.d.den] 41)).alloc (.cells #[.int .i64 b.a.re, .int .i64 b.a.im, .int .i64 b.a.den, .int .i64 b.b.re, .int .i64 b.b.im, .int .i64 b.b.den, .int .i64 b.c.re, .int .i64 b.c.im, .int .i64 b.c.den, .int .i64 b.d.re, .int .i64 b.d.im, .int .i64 b.d.den] 41)).alloc (.cells #[.int .i64 0, .int .i64 0, .int .i64 1, .int .i64 0, .int .i64 0, .int .i64 1, .int .i64 0, .int .i64 0, .int .i64 1, .int .i64 0, .int .i64 0, .int .i64 1] 39))) (w.heap.size + 1) 0 [.int .i64 b.a.re, .int .i64 b.a.im, .int .i64 b.a.den, .int .i64 b.b.re, .int .i64 b.b.im, .int .i64 b.b.den, .int .i64 b.c.re, .int .i64 b.c.im, .int .i64 b.c.den, .int .i64 b.d.re, .int .i64 b.d.im, .int .i64 b.d.den] from (World.rangeAt_alloc (rangeAt_nw (by simp)) _)) hb (by first | omega | (simp; done) | (simp <;> omega))
      have Hnn : Hid (w1.rangeAt (w.heap.size + 1 + 1) 0 [.int .i64 0, .int .i64 0, .int .i64 1, .int .i64 0, .int .i64 0, .int .i64 1, .int .i64 0, .int .i64 0, .int .i64 1, .int .i64 0, .int .i64 0, .int .i64 1]) := rangeAt_below (show World.rangeAt (World.drew (((w.alloc (.cells #[.int .i64 a.a.re, .int .i64 a.a.im, .int .i64 a.a.den, .int .i64 a.b.re, .int .i64 a.b.im, .int .i64 a.b.den, .int .i64 a.c.re, .int .i64 a.c.im, .int .i64 a.c.den, .int .i64 a.d.re, .int .i64 a.d.im, .int .i64 a.d.den] 41)).alloc (.cells #[.int .i64 b.a.re, .int .i64 b.a.im, .int .i64 b.a.den, .int .i64 b.b.re, .int .i64 b.b.im, .int .i64 b.b.den, .int .i64 b.c.re, .int .i64 b.c.im, .int .i64 b.c.den, .int .i64 b.d.re, .int .i64 b.d.im, .int .i64 b.d.den] 41)).alloc (.cells #[.int .i64 0, .int .i64 0, .int .i64 1, .int .i64 0, .int .i64 0, .int .i64 1, .int .i64 0, .int .i64 0, .int .i64 1, .int .i64 0, .int .i64 0, .int .i64 1] 39))) (w.heap.size + 1 + 1) 0 [.int .i64 0, .int .i64 0, .int .i64 1, .int .i64 0, .int .i64 0, .int .i64 1, .int .i64 0, .int .i64 0, .int .i64 1, .int .i64 0, .int .i64 0, .int .i64 1] from (rangeAt_nw (by simp))) hb (by first | omega | (simp; done) | (simp <;> omega))
      have hz1 := hb.size
      (try simp at hz1)
      clear hb
      have hne1 : ¬ w1.heap = #[] := fun h => absurd (show 1 < 0 from (by have hh : 1 < w1.heap.size := (by omega); rw [h] at hh; exact hh)) (Nat.not_lt_zero _)
      have nA0 : 1 < w1.heap.size := by omega
      have nB0 : ¬ 1 = w1.heap.size := by omega
      have nC0 : ¬ w1.heap.size = 1 := by omega
      have nA1 : w.heap.size < w1.heap.size := by omega
      have nB1 : ¬ w.heap.size = w1.heap.size := by omega
      have nC1 : ¬ w1.heap.size = w.heap.size := by omega
      have nA2 : w.heap.size + 1 < w1.heap.size := by omega
      have nB2 : ¬ w.heap.size + 1 = w1.heap.size := by omega
      have nC2 : ¬ w1.heap.size = w.heap.size + 1 := by omega
      have nA3 : w.heap.size + 1 + 1 < w1.heap.size := by omega
      have nB3 : ¬ w.heap.size + 1 + 1 = w1.heap.size := by omega
      have nC3 : ¬ w1.heap.size = w.heap.size + 1 + 1 := by omega
      refine hK.out _ _ (show _ from ⟨(cellsM Ha.out), (cellsM Hb.out)⟩) (fun hHeld => ?_)
      clear hK K
      (try simp only [Act.put, List.getElem_toArray, List.getElem_cons_succ, List.getElem_cons_zero, List.setIfInBounds_toArray, List.set_cons_zero, List.set_cons_succ])
      refine wpAnyH_take (i := 2) (v := ?_) rfl (by kernel_rfl) (by kernel_rfl) (by kernel_rfl) (fun _ _ _ h => h) (Or.inl ⟨by rfl, ?_⟩) (by assumption) ?_
      rotate_left
      (focus (intro w hSw; (try dsimp only at hSw); go_simp; (try with_reducible rfl)))
      (try simp only [Act.put, List.getElem_toArray, List.getElem_cons_succ, List.getElem_cons_zero, List.setIfInBounds_toArray, List.set_cons_zero, List.set_cons_succ])
      refine wpAnyH_take (i := 3) (v := ?_) rfl (by kernel_rfl) (by kernel_rfl) (by kernel_rfl) (fun _ _ _ h => h) (Or.inl ⟨by rfl, ?_⟩) (by assumption) ?_
      rotate_left
      (focus (intro w hSw; (try dsimp only at hSw); go_simp; (try with_reducible rfl)))
      (try simp only [Act.put, List.getElem_toArray, List.getElem_cons_succ, List.getElem_cons_zero, List.setIfInBounds_toArray, List.set_cons_zero, List.set_cons_succ])
      refine wpAnyH_ready (rs := [4]) (by kernel_rfl) (by simp) ?_
      refine AllReadyH.cons rfl (fun K hK => ?_) AllReadyH.nil
      go_simp
      go_at_call 73
      (with_reducible refine (imatvalid_any b _).mono ?_)
      rintro e w2 ho
      rw [h2] at ho
      obtain ⟨rfl, hb⟩ : e = .returned (.bool false) ∧ Below _ _ _ := (id ho)
      clear ho
      have HB := Lib.hid (show Below w.heap.size w w2 from HB.out.trans ((show Below _ _ _ from (Below.refl _ _)).trans (hb.mono (by first | omega | (simp <;> omega)))))
      have Hvzero : Hid (w2.rangeAt (1) 0 [.int .i64 0, .int .i64 0, .int .i64 1]) := rangeAt_below Hvzero.out hb (by first | omega | (simp; done) | (simp <;> omega))
      have Ha : Hid (w2.rangeAt (w.heap.size) 0 [.int .i64 a.a.re, .int .i64 a.a.im, .int .i64 a.a.den, .int .i64 a.b.re, .int .i64 a.b.im, .int .i64 a.b.den, .int .i64 a.c.re, .int .i64 a.c.im, .int .i64 a.c.den, .int .i64 a.d.re, .int .i64 a.d.im, .int .i64 a.d.den]) := rangeAt_below Ha.out hb (by first | omega | (simp; done) | (simp <;> omega))
      have Hb : Hid (w2.rangeAt (w.heap.size + 1) 0 [.int .i64 b.a.re, .int .i64 b.a.im, .int .i64 b.a.den, .int .i64 b.b.re, .int .i64 b.b.im, .int .i64 b.b.den, .int .i64 b.c.re, .int .i64 b.c.im, .int .i64 b.c.den, .int .i64 b.d.re, .int .i64 b.d.im, .int .i64 b.d.den]) := rangeAt_below Hb.out hb (by first | omega | (simp; done) | (simp <;> omega))
      have Hnn : Hid (w2.rangeAt (w.heap.size + 1 + 1) 0 [.int .i64 0, .int .i64 0, .int .i64 1, .int .i64 0, .int .i64 0, .int .i64 1, .int .i64 0, .int .i64 0, .int .i64 1, .int .i64 0, .int .i64 0, .int .i64 1]) := rangeAt_below Hnn.out hb (by first | omega | (simp; done) | (simp <;> omega))
      have hz2 := hb.size
      (try simp at hz2)
      clear hb
      have hne2 : ¬ w2.heap = #[] := fun h => absurd (show 1 < 0 from (by have hh : 1 < w2.heap.size := (by omega); rw [h] at hh; exact hh)) (Nat.not_lt_zero _)
      have nA0 : 1 < w2.heap.size := by omega
      have nB0 : ¬ 1 = w2.heap.size := by omega
      have nC0 : ¬ w2.heap.size = 1 := by omega
      have nA1 : w.heap.size < w2.heap.size := by omega
      have nB1 : ¬ w.heap.size = w2.heap.size := by omega
      have nC1 : ¬ w2.heap.size = w.heap.size := by omega
      have nA2 : w.heap.size + 1 < w2.heap.size := by omega
      have nB2 : ¬ w.heap.size + 1 = w2.heap.size := by omega
      have nC2 : ¬ w2.heap.size = w.heap.size + 1 := by omega
      have nA3 : w.heap.size + 1 + 1 < w2.heap.size := by omega
      have nB3 : ¬ w.heap.size + 1 + 1 = w2.heap.size := by omega
      have nC3 : ¬ w2.heap.size = w.heap.size + 1 + 1 := by omega
      refine hK.out _ _ (show _ from ⟨(cellsM Ha.out), (cellsM Hb.out)⟩) (fun hHeld => ?_)
      clear hK K
      (try simp only [Act.put, List.getElem_toArray, List.getElem_cons_succ, List.getElem_cons_zero, List.setIfInBounds_toArray, List.set_cons_zero, List.set_cons_succ])
      refine wpAnyH_take (i := 5) (v := ?_) rfl (by kernel_rfl) (by kernel_rfl) (by kernel_rfl) (fun _ _ _ h => h) (Or.inl ⟨by rfl, ?_⟩) (by assumption) ?_
      rotate_left
      (focus (intro w hSw; (try dsimp only at hSw); go_simp; (try with_reducible rfl)))
      (try simp only [Act.put, List.getElem_toArray, List.getElem_cons_succ, List.getElem_cons_zero, List.setIfInBounds_toArray, List.set_cons_zero, List.set_cons_succ])
      refine wpAnyH_take (i := 6) (v := ?_) rfl (by kernel_rfl) (by kernel_rfl) (by kernel_rfl) (fun _ _ _ h => h) (Or.inl ⟨by rfl, ?_⟩) (by assumption) ?_
      rotate_left
      (focus (intro w hSw; (try dsimp only at hSw); go_simp; (try with_reducible rfl)))
      (try simp only [Act.put, List.getElem_toArray, List.getElem_cons_succ, List.getElem_cons_zero, List.setIfInBounds_toArray, List.set_cons_zero, List.set_cons_succ])
      refine wpAnyH_take (i := 7) rfl (by kernel_rfl) (by kernel_rfl) (by kernel_rfl) (fun _ _ _ h => h) (Or.inr ⟨by rfl, rfl⟩) (by assumption) ?_
      (try simp only [Act.put, List.getElem_toArray, List.getElem_cons_succ, List.getElem_cons_zero, List.setIfInBounds_toArray, List.set_cons_zero, List.set_cons_succ])
      refine wpAnyH_take (i := 8) rfl (by kernel_rfl) (by kernel_rfl) (by kernel_rfl) (fun _ _ _ h => h) (Or.inr ⟨by rfl, rfl⟩) (by assumption) ?_
      (try simp only [Act.put, List.getElem_toArray, List.getElem_cons_succ, List.getElem_cons_zero, List.setIfInBounds_toArray, List.set_cons_zero, List.set_cons_succ])
      refine wpAnyH_take (i := 9) rfl (by kernel_rfl) (by kernel_rfl) (by kernel_rfl) (fun _ _ _ h => h) (Or.inr ⟨by rfl, rfl⟩) (by assumption) ?_
      (try simp only [Act.put, List.getElem_toArray, List.getElem_cons_succ, List.getElem_cons_zero, List.setIfInBounds_toArray, List.set_cons_zero, List.set_cons_succ])
      refine wpAnyH_take (i := 10) rfl (by kernel_rfl) (by kernel_rfl) (by kernel_rfl) (fun _ _ _ h => h) (Or.inr ⟨by rfl, rfl⟩) (by assumption) ?_
      (try simp only [Act.put, List.getElem_toArray, List.getElem_cons_succ, List.getElem_cons_zero, List.setIfInBounds_toArray, List.set_cons_zero, List.set_cons_succ])
      refine wpAnyH_take (i := 11) rfl (by kernel_rfl) (by kernel_rfl) (by kernel_rfl) (fun _ _ _ h => h) (Or.inr ⟨by rfl, rfl⟩) (by assumption) ?_
      (try simp only [Act.put, List.getElem_toArray, List.getElem_cons_succ, List.getElem_cons_zero, List.setIfInBounds_toArray, List.set_cons_zero, List.set_cons_succ])
      refine wpAnyH_take (i := 12) (v := ?_) rfl (by kernel_rfl) (by kernel_rfl) (by kernel_rfl) (fun _ _ _ h => h) (Or.inl ⟨by rfl, ?_⟩) (by assumption) ?_
      rotate_left
      (focus (intro w hSw; (try dsimp only at hSw); go_simp; (try with_reducible rfl)))
      (try simp only [Act.put, List.getElem_toArray, List.getElem_cons_succ, List.getElem_cons_zero, List.setIfInBounds_toArray, List.set_cons_zero, List.set_cons_succ])
      refine wpAnyH_take (i := 13) (v := ?_) rfl (by kernel_rfl) (by kernel_rfl) (by kernel_rfl) (fun _ _ _ h => h) (Or.inl ⟨by rfl, ?_⟩) (by assumption) ?_
      rotate_left
      (focus (intro w hSw; (try dsimp only at hSw); go_simp; (try with_reducible rfl)))
      (try simp only [Act.put, List.getElem_toArray, List.getElem_cons_succ, List.getElem_cons_zero, List.setIfInBounds_toArray, List.set_cons_zero, List.set_cons_succ])
      refine wpAnyH_take (i := 14) rfl (by kernel_rfl) (by kernel_rfl) (by kernel_rfl) (fun _ _ _ h => h) (Or.inr ⟨by rfl, rfl⟩) (by assumption) ?_
      (try simp only [Act.put, List.getElem_toArray, List.getElem_cons_succ, List.getElem_cons_zero, List.setIfInBounds_toArray, List.set_cons_zero, List.set_cons_succ])
      refine wpAnyH_take (i := 15) rfl (by kernel_rfl) (by kernel_rfl) (by kernel_rfl) (fun _ _ _ h => h) (Or.inr ⟨by rfl, rfl⟩) (by assumption) ?_
      (try simp only [Act.put, List.getElem_toArray, List.getElem_cons_succ, List.getElem_cons_zero, List.setIfInBounds_toArray, List.set_cons_zero, List.set_cons_succ])
      refine wpAnyH_take (i := 16) rfl (by kernel_rfl) (by kernel_rfl) (by kernel_rfl) (fun _ _ _ h => h) (Or.inr ⟨by rfl, rfl⟩) (by assumption) ?_
      (try simp only [Act.put, List.getElem_toArray, List.getElem_cons_succ, List.getElem_cons_zero, List.setIfInBounds_toArray, List.set_cons_zero, List.set_cons_succ])
      refine wpAnyH_take (i := 17) rfl (by kernel_rfl) (by kernel_rfl) (by kernel_rfl) (fun _ _ _ h => h) (Or.inr ⟨by rfl, rfl⟩) (by assumption) ?_
      (try simp only [Act.put, List.getElem_toArray, List.getElem_cons_succ, List.getElem_cons_zero, List.setIfInBounds_toArray, List.set_cons_zero, List.set_cons_succ])
      refine wpAnyH_take (i := 18) rfl (by kernel_rfl) (by kernel_rfl) (by kernel_rfl) (fun _ _ _ h => h) (Or.inr ⟨by rfl, rfl⟩) (by assumption) ?_
      (try simp only [Act.put, List.getElem_toArray, List.getElem_cons_succ, List.getElem_cons_zero, List.setIfInBounds_toArray, List.set_cons_zero, List.set_cons_succ])
      refine wpAnyH_take (i := 19) rfl (by kernel_rfl) (by kernel_rfl) (by kernel_rfl) (fun _ _ _ h => h) (Or.inr ⟨by rfl, rfl⟩) (by assumption) ?_
      (try simp only [Act.put, List.getElem_toArray, List.getElem_cons_succ, List.getElem_cons_zero, List.setIfInBounds_toArray, List.set_cons_zero, List.set_cons_succ])
      refine wpAnyH_take (i := 20) rfl (by kernel_rfl) (by kernel_rfl) (by kernel_rfl) (fun _ _ _ h => h) (Or.inr ⟨by rfl, rfl⟩) (by assumption) ?_
      (try simp only [Act.put, List.getElem_toArray, List.getElem_cons_succ, List.getElem_cons_zero, List.setIfInBounds_toArray, List.set_cons_zero, List.set_cons_succ])
      refine wpAnyH_take (i := 21) rfl (by kernel_rfl) (by kernel_rfl) (by kernel_rfl) (fun _ _ _ h => h) (Or.inr ⟨by rfl, rfl⟩) (by assumption) ?_
      (try simp only [Act.put, List.getElem_toArray, List.getElem_cons_succ, List.getElem_cons_zero, List.setIfInBounds_toArray, List.set_cons_zero, List.set_cons_succ])
      refine wpAnyH_take (i := 22) rfl (by kernel_rfl) (by kernel_rfl) (by kernel_rfl) (fun _ _ _ h => h) (Or.inr ⟨by rfl, rfl⟩) (by assumption) ?_
      (try simp only [Act.put, List.getElem_toArray, List.getElem_cons_succ, List.getElem_cons_zero, List.setIfInBounds_toArray, List.set_cons_zero, List.set_cons_succ])
      refine wpAnyH_take (i := 23) (v := ?_) rfl (by kernel_rfl) (by kernel_rfl) (by kernel_rfl) (fun _ _ _ h => h) (Or.inl ⟨by rfl, ?_⟩) (by assumption) ?_
      rotate_left
      (focus (intro w hSw; (try dsimp only at hSw); go_simp; (try with_reducible rfl)))
      (try simp only [Act.put, List.getElem_toArray, List.getElem_cons_succ, List.getElem_cons_zero, List.setIfInBounds_toArray, List.set_cons_zero, List.set_cons_succ])
      refine wpAnyH_take (i := 24) (v := ?_) rfl (by kernel_rfl) (by kernel_rfl) (by kernel_rfl) (fun _ _ _ h => h) (Or.inl ⟨by rfl, ?_⟩) (by assumption) ?_
      rotate_left
      (focus (intro w hSw; (try dsimp only at hSw); go_simp; (try with_reducible rfl)))
      (try simp only [Act.put, List.getElem_toArray, List.getElem_cons_succ, List.getElem_cons_zero, List.setIfInBounds_toArray, List.set_cons_zero, List.set_cons_succ])
      refine wpAnyH_done (by kernel_rfl) ?_ _
      clear hHeld
      go_wp2_with fail
      go_ret
      exact ⟨by rw [HG.out]; rfl, (by (repeat' first | (with_reducible exact HB.out) | with_reducible refine setCells_below _ _ _ ?_ (by first | omega | (simp <;> omega)) | with_reducible refine Below.setCell ?_ (by show _ ≤ _; first | omega | (simp <;> omega) | simp) _ | with_reducible refine Below.alloc ?_ (by first | omega | (simp <;> omega)) _ | with_reducible apply Below.drew | with_reducible refine below_drewN ?_ _))⟩
    · skip
      cases h3 : alB a b
      · skip
        have HG : Hid (gMAl a b = false) := by show _ = _; unfold gMAl; rw [h1, h2, h3]; rfl
        have HB : Hid (Below w.heap.size w w) := Below.refl _ _
        have hlt_zero := hg_zero.lt
        have Hvzero : Hid (w.rangeAt 1 0 [.int .i64 0, .int .i64 0, .int .i64 1]) := by show World.rangeAt _ _ _ _; exact rangeOf1 hg_zero.box
        have HG_zero := Lib.hid hg_zero; clear hg_zero
        go_enter Tryd.func23, Tryd.ntmps23
        go_wp2_with (first | ((with_reducible refine wpList_load_mid ?kl91 23 ?kl9x ?kl92 (1) 0 ?kl93 [.int .i64 0, .int .i64 0, .int .i64 1] ?kl9d ?kl94 ?kl95 ?kl96 ?kl97 ?kl98); (case kl92 => rfl); (case kl91 => rfl); (case kl93 => rfl); (case kl94 => (exact (World.rangeAt_alloc (World.rangeAt_alloc Hvzero.out _) _))); (case kl95 => exact Tryd.underlying23); (case kl96 => rfl); (case kl97 => kernel_rfl)) | ((with_reducible refine wpList_load_mid ?kl101 23 ?kl10x ?kl102 (1) 0 ?kl103 [.int .i64 0, .int .i64 0, .int .i64 1] ?kl10d ?kl104 ?kl105 ?kl106 ?kl107 ?kl108); (case kl102 => rfl); (case kl101 => rfl); (case kl103 => rfl); (case kl104 => (exact (World.rangeAt_alloc (World.rangeAt_alloc Hvzero.out _) _))); (case kl105 => exact Tryd.underlying23); (case kl106 => rfl); (case kl107 => kernel_rfl)) | ((with_reducible refine wpList_load_mid ?kl111 23 ?kl11x ?kl112 (1) 0 ?kl113 [.int .i64 0, .int .i64 0, .int .i64 1] ?kl11d ?kl114 ?kl115 ?kl116 ?kl117 ?kl118); (case kl112 => rfl); (case kl111 => rfl); (case kl113 => rfl); (case kl114 => (exact (World.rangeAt_alloc (World.rangeAt_alloc Hvzero.out _) _))); (case kl115 => exact Tryd.underlying23); (case kl116 => rfl); (case kl117 => kernel_rfl)) | ((with_reducible refine wpList_load_mid ?kl121 23 ?kl12x ?kl122 (1) 0 ?kl123 [.int .i64 0, .int .i64 0, .int .i64 1] ?kl12d ?kl124 ?kl125 ?kl126 ?kl127 ?kl128); (case kl122 => rfl); (case kl121 => rfl); (case kl123 => rfl); (case kl124 => (exact (World.rangeAt_alloc (World.rangeAt_alloc Hvzero.out _) _))); (case kl125 => exact Tryd.underlying23); (case kl126 => rfl); (case kl127 => kernel_rfl)))
        refine wp_region_held_drew (S := (fun w' => (w'.cell? ⟨w.heap.size, 0, none⟩ = some (.int .i64 a.a.re) ∧ w'.cell? ⟨w.heap.size, 1, none⟩ = some (.int .i64 a.a.im) ∧ w'.cell? ⟨w.heap.size, 2, none⟩ = some (.int .i64 a.a.den) ∧ w'.cell? ⟨w.heap.size, 3, none⟩ = some (.int .i64 a.b.re) ∧ w'.cell? ⟨w.heap.size, 4, none⟩ = some (.int .i64 a.b.im) ∧ w'.cell? ⟨w.heap.size, 5, none⟩ = some (.int .i64 a.b.den) ∧ w'.cell? ⟨w.heap.size, 6, none⟩ = some (.int .i64 a.c.re) ∧ w'.cell? ⟨w.heap.size, 7, none⟩ = some (.int .i64 a.c.im) ∧ w'.cell? ⟨w.heap.size, 8, none⟩ = some (.int .i64 a.c.den) ∧ w'.cell? ⟨w.heap.size, 9, none⟩ = some (.int .i64 a.d.re) ∧ w'.cell? ⟨w.heap.size, 10, none⟩ = some (.int .i64 a.d.im) ∧ w'.cell? ⟨w.heap.size, 11, none⟩ = some (.int .i64 a.d.den)) ∧ (w'.cell? ⟨w.heap.size + 1, 0, none⟩ = some (.int .i64 b.a.re) ∧ w'.cell? ⟨w.heap.size + 1, 1, none⟩ = some (.int .i64 b.a.im) ∧ w'.cell? ⟨w.heap.size + 1, 2, none⟩ = some (.int .i64 b.a.den) ∧ w'.cell? ⟨w.heap.size + 1, 3, none⟩ = some (.int .i64 b.b.re) ∧ w'.cell? ⟨w.heap.size + 1, 4, none⟩ = some (.int .i64 b.b.im) ∧ w'.cell? ⟨w.heap.size + 1, 5, none⟩ = some (.int .i64 b.b.den) ∧ w'.cell? ⟨w.heap.size + 1, 6, none⟩ = some (.int .i64 b.c.re) ∧ w'.cell? ⟨w.heap.size + 1, 7, none⟩ = some (.int .i64 b.c.im) ∧ w'.cell? ⟨w.heap.size + 1, 8, none⟩ = some (.int .i64 b.c.den) ∧ w'.cell? ⟨w.heap.size + 1, 9, none⟩ = some (.int .i64 b.d.re) ∧ w'.cell? ⟨w.heap.size + 1, 10, none⟩ = some (.int .i64 b.d.im) ∧ w'.cell? ⟨w.heap.size + 1, 11, none⟩ = some (.int .i64 b.d.den)))) (by kernel_rfl) (show _ from ⟨(cellsM (show World.rangeAt (World.drew (((w.alloc (.cells #[.int .i64 a.a.re, .int .i64 a.a.im, .int .i64 a.a.den, .int .i64 a.b.re, .int .i64 a.b.im, .int .i64 a.b.den, .int .i64 a.c.re, .int .i64 a.c.im, .int .i64 a.c.den, .int .i64 a.d.re, .int .i64 a.d.im, .int .i64 a.d.den] 41)).alloc (.cells #[.int .i64 b.a.re, .int .i64 b.a.im, .int .i64 b.a.den, .int .i64 b.b.re, .int .i64 b.b.im, .int .i64 b.b.den, .int .i64 b.c.re, .int .i64 b.c.im, .int .i64 b.c.den, .int .i64 b.d.re, .int .i64 b.d.im, .int .i64 b.d.den] 41)).alloc (.cells #[.int .i64 0, .int .i64 0, .int .i64 1, .int .i64 0, .int .i64 0, .int .i64 1, .int .i64 0, .int .i64 0, .int .i64 1, .int .i64 0, .int .i64 0, .int .i64 1] 39))) (w.heap.size) 0 [.int .i64 a.a.re, .int .i64 a.a.im, .int .i64 a.a.den, .int .i64 a.b.re, .int .i64 a.b.im, .int .i64 a.b.den, .int .i64 a.c.re, .int .i64 a.c.im, .int .i64 a.c.den, .int .i64 a.d.re, .int .i64 a.d.im, .int .i64 a.d.den] from (World.rangeAt_alloc (World.rangeAt_alloc (rangeAt_new _ _ _) _) _))), (cellsM (show World.rangeAt (World.drew (((w.alloc (.cells #[.int .i64 a.a.re, .int .i64 a.a.im, .int .i64 a.a.den, .int .i64 a.b.re, .int .i64 a.b.im, .int .i64 a.b.den, .int .i64 a.c.re, .int .i64 a.c.im, .int .i64 a.c.den, .int .i64 a.d.re, .int .i64 a.d.im, .int .i64 a.d.den] 41)).alloc (.cells #[.int .i64 b.a.re, .int .i64 b.a.im, .int .i64 b.a.den, .int .i64 b.b.re, .int .i64 b.b.im, .int .i64 b.b.den, .int .i64 b.c.re, .int .i64 b.c.im, .int .i64 b.c.den, .int .i64 b.d.re, .int .i64 b.d.im, .int .i64 b.d.den] 41)).alloc (.cells #[.int .i64 0, .int .i64 0, .int .i64 1, .int .i64 0, .int .i64 0, .int .i64 1, .int .i64 0, .int .i64 0, .int .i64 1, .int .i64 0, .int .i64 0, .int .i64 1] 39))) (w.heap.size + 1) 0 [.int .i64 b.a.re, .int .i64 b.a.im, .int .i64 b.a.den, .int .i64 b.b.re, .int .i64 b.b.im, .int .i64 b.b.den, .int .i64 b.c.re, .int .i64 b.c.im, .int .i64 b.c.den, .int .i64 b.d.re, .int .i64 b.d.im, .int .i64 b.d.den] from (World.rangeAt_alloc (rangeAt_nw (by simp)) _)))⟩) (fun hHeld => ?_)
        refine wpAnyH_take (i := 0) (v := ?_) rfl (by kernel_rfl) (by kernel_rfl) (by kernel_rfl) (fun _ _ _ h => h) (Or.inl ⟨by rfl, ?_⟩) (by assumption) ?_
        rotate_left
        (focus (intro w hSw; (try dsimp only at hSw); go_simp; (try with_reducible rfl)))
        (try simp only [Act.put, List.getElem_toArray, List.getElem_cons_zero, List.setIfInBounds_toArray, List.set_cons_zero, List.set_cons_succ])
        refine wpAnyH_ready (rs := [1]) (by kernel_rfl) (by simp) ?_
        refine AllReadyH.cons rfl (fun K hK => ?_) AllReadyH.nil
        go_simp
        go_at_call 73
        (with_reducible refine (imatvalid_any a _).mono ?_)
        rintro e w1 ho
        rw [h1] at ho
        obtain ⟨rfl, hb⟩ : e = .returned (.bool true) ∧ Below _ _ _ := (id ho)
        clear ho
        have HB := Lib.hid (show Below w.heap.size w w1 from HB.out.trans ((show Below _ _ _ from (((((Below.refl _ _).alloc (by first | omega | (simp; done) | (simp <;> omega)) _).alloc (by first | omega | (simp; done) | (simp <;> omega)) _).alloc (by first | omega | (simp; done) | (simp <;> omega)) _).drew)).trans (hb.mono (by first | omega | (simp <;> omega)))))
        have Hvzero : Hid (w1.rangeAt (1) 0 [.int .i64 0, .int .i64 0, .int .i64 1]) := rangeAt_below (show World.rangeAt (World.drew (((w.alloc (.cells #[.int .i64 a.a.re, .int .i64 a.a.im, .int .i64 a.a.den, .int .i64 a.b.re, .int .i64 a.b.im, .int .i64 a.b.den, .int .i64 a.c.re, .int .i64 a.c.im, .int .i64 a.c.den, .int .i64 a.d.re, .int .i64 a.d.im, .int .i64 a.d.den] 41)).alloc (.cells #[.int .i64 b.a.re, .int .i64 b.a.im, .int .i64 b.a.den, .int .i64 b.b.re, .int .i64 b.b.im, .int .i64 b.b.den, .int .i64 b.c.re, .int .i64 b.c.im, .int .i64 b.c.den, .int .i64 b.d.re, .int .i64 b.d.im, .int .i64 b.d.den] 41)).alloc (.cells #[.int .i64 0, .int .i64 0, .int .i64 1, .int .i64 0, .int .i64 0, .int .i64 1, .int .i64 0, .int .i64 0, .int .i64 1, .int .i64 0, .int .i64 0, .int .i64 1] 39))) (1) 0 [.int .i64 0, .int .i64 0, .int .i64 1] from (World.rangeAt_alloc (World.rangeAt_alloc (World.rangeAt_alloc Hvzero.out _) _) _)) hb (by first | omega | (simp; done) | (simp <;> omega))
        have Ha : Hid (w1.rangeAt (w.heap.size) 0 [.int .i64 a.a.re, .int .i64 a.a.im, .int .i64 a.a.den, .int .i64 a.b.re, .int .i64 a.b.im, .int .i64 a.b.den, .int .i64 a.c.re, .int .i64 a.c.im, .int .i64 a.c.den, .int .i64 a.d.re, .int .i64 a.d.im, .int .i64 a.d.den]) := rangeAt_below (show World.rangeAt (World.drew (((w.alloc (.cells #[.int .i64 a.a.re, .int .i64 a.a.im, .int .i64 a.a.den, .int .i64 a.b.re, .int .i64 a.b.im, .int .i64 a.b.den, .int .i64 a.c.re, .int .i64 a.c.im, .int .i64 a.c.den, .int .i64 a.d.re, .int .i64 a.d.im, .int .i64 a.d.den] 41)).alloc (.cells #[.int .i64 b.a.re, .int .i64 b.a.im, .int .i64 b.a.den, .int .i64 b.b.re, .int .i64 b.b.im, .int .i64 b.b.den, .int .i64 b.c.re, .int .i64 b.c.im, .int .i64 b.c.den, .int .i64 b.d.re, .int .i64 b.d.im, .int .i64 b.d.den] 41)).alloc (.cells #[.int .i64 0, .int .i64 0, .int .i64 1, .int .i64 0, .int .i64 0, .int .i64 1, .int .i64 0, .int .i64 0, .int .i64 1, .int .i64 0, .int .i64 0, .int .i64 1] 39))) (w.heap.size) 0 [.int .i64 a.a.re, .int .i64 a.a.im, .int .i64 a.a.den, .int .i64 a.b.re, .int .i64 a.b.im, .int .i64 a.b.den, .int .i64 a.c.re, .int .i64 a.c.im, .int .i64 a.c.den, .int .i64 a.d.re, .int .i64 a.d.im, .int .i64 a.d.den] from (World.rangeAt_alloc (World.rangeAt_alloc (rangeAt_new _ _ _) _) _)) hb (by first | omega | (simp; done) | (simp <;> omega))
        have Hb : Hid (w1.rangeAt (w.heap.size + 1) 0 [.int .i64 b.a.re, .int .i64 b.a.im, .int .i64 b.a.den, .int .i64 b.b.re, .int .i64 b.b.im, .int .i64 b.b.den, .int .i64 b.c.re, .int .i64 b.c.im, .int .i64 b.c.den, .int .i64 b.d.re, .int .i64 b.d.im, .int .i64 b.d.den]) := rangeAt_below (show World.rangeAt (World.drew (((w.alloc (.cells #[.int .i64 a.a.re, .int .i64 a.a.im, .int .i64 a.a.den, .int .i64 a.b.re, .int .i64 a.b.im, .int .i64 a.b.den, .int .i64 a.c.re, .int .i64 a.c.im, .int .i64 a.c.den, .int .i64 a.d.re, .int .i64 a.d.im, .int .i64 a.d.den] 41)).alloc (.cells #[.int .i64 b.a.re, .int .i64 b.a.im, .int .i64 b.a.den, .int .i64 b.b.re, .int .i64 b.b.im, .int .i64 b.b.den, .int .i64 b.c.re, .int .i64 b.c.im, .int .i64 b.c.den, .int .i64 b.d.re, .int .i64 b.d.im, .int .i64 b.d.den] 41)).alloc (.cells #[.int .i64 0, .int .i64 0, .int .i64 1, .int .i64 0, .int .i64 0, .int .i64 1, .int .i64 0, .int .i64 0, .int .i64 1, .int .i64 0, .int .i64 0, .int .i64 1] 39))) (w.heap.size + 1) 0 [.int .i64 b.a.re, .int .i64 b.a.im, .int .i64 b.a.den, .int .i64 b.b.re, .int .i64 b.b.im, .int .i64 b.b.den, .int .i64 b.c.re, .int .i64 b.c.im, .int .i64 b.c.den, .int .i64 b.d.re, .int .i64 b.d.im, .int .i64 b.d.den] from (World.rangeAt_alloc (rangeAt_nw (by simp)) _)) hb (by first | omega | (simp; done) | (simp <;> omega))
        have Hnn : Hid (w1.rangeAt (w.heap.size + 1 + 1) 0 [.int .i64 0, .int .i64 0, .int .i64 1, .int .i64 0, .int .i64 0, .int .i64 1, .int .i64 0, .int .i64 0, .int .i64 1, .int .i64 0, .int .i64 0, .int .i64 1]) := rangeAt_below (show World.rangeAt (World.drew (((w.alloc (.cells #[.int .i64 a.a.re, .int .i64 a.a.im, .int .i64 a.a.den, .int .i64 a.b.re, .int .i64 a.b.im, .int .i64 a.b.den, .int .i64 a.c.re, .int .i64 a.c.im, .int .i64 a.c.den, .int .i64 a.d.re, .int .i64 a.d.im, .int .i64 a.d.den] 41)).alloc (.cells #[.int .i64 b.a.re, .int .i64 b.a.im, .int .i64 b.a.den, .int .i64 b.b.re, .int .i64 b.b.im, .int .i64 b.b.den, .int .i64 b.c.re, .int .i64 b.c.im, .int .i64 b.c.den, .int .i64 b.d.re, .int .i64 b.d.im, .int .i64 b.d.den] 41)).alloc (.cells #[.int .i64 0, .int .i64 0, .int .i64 1, .int .i64 0, .int .i64 0, .int .i64 1, .int .i64 0, .int .i64 0, .int .i64 1, .int .i64 0, .int .i64 0, .int .i64 1] 39))) (w.heap.size + 1 + 1) 0 [.int .i64 0, .int .i64 0, .int .i64 1, .int .i64 0, .int .i64 0, .int .i64 1, .int .i64 0, .int .i64 0, .int .i64 1, .int .i64 0, .int .i64 0, .int .i64 1] from (rangeAt_nw (by simp))) hb (by first | omega | (simp; done) | (simp <;> omega))
        have hz1 := hb.size
        (try simp at hz1)
        clear hb
        have hne1 : ¬ w1.heap = #[] := fun h => absurd (show 1 < 0 from (by have hh : 1 < w1.heap.size := (by omega); rw [h] at hh; exact hh)) (Nat.not_lt_zero _)
        have nA0 : 1 < w1.heap.size := by omega
        have nB0 : ¬ 1 = w1.heap.size := by omega
        have nC0 : ¬ w1.heap.size = 1 := by omega
        have nA1 : w.heap.size < w1.heap.size := by omega
        have nB1 : ¬ w.heap.size = w1.heap.size := by omega
        have nC1 : ¬ w1.heap.size = w.heap.size := by omega
        have nA2 : w.heap.size + 1 < w1.heap.size := by omega
        have nB2 : ¬ w.heap.size + 1 = w1.heap.size := by omega
        have nC2 : ¬ w1.heap.size = w.heap.size + 1 := by omega
        have nA3 : w.heap.size + 1 + 1 < w1.heap.size := by omega
        have nB3 : ¬ w.heap.size + 1 + 1 = w1.heap.size := by omega
        have nC3 : ¬ w1.heap.size = w.heap.size + 1 + 1 := by omega
        refine hK.out _ _ (show _ from ⟨(cellsM Ha.out), (cellsM Hb.out)⟩) (fun hHeld => ?_)
        clear hK K
        (try simp only [Act.put, List.getElem_toArray, List.getElem_cons_succ, List.getElem_cons_zero, List.setIfInBounds_toArray, List.set_cons_zero, List.set_cons_succ])
        refine wpAnyH_take (i := 2) (v := ?_) rfl (by kernel_rfl) (by kernel_rfl) (by kernel_rfl) (fun _ _ _ h => h) (Or.inl ⟨by rfl, ?_⟩) (by assumption) ?_
        rotate_left
        (focus (intro w hSw; (try dsimp only at hSw); go_simp; (try with_reducible rfl)))
        (try simp only [Act.put, List.getElem_toArray, List.getElem_cons_succ, List.getElem_cons_zero, List.setIfInBounds_toArray, List.set_cons_zero, List.set_cons_succ])
        refine wpAnyH_take (i := 3) (v := ?_) rfl (by kernel_rfl) (by kernel_rfl) (by kernel_rfl) (fun _ _ _ h => h) (Or.inl ⟨by rfl, ?_⟩) (by assumption) ?_
        rotate_left
        (focus (intro w hSw; (try dsimp only at hSw); go_simp; (try with_reducible rfl)))
        (try simp only [Act.put, List.getElem_toArray, List.getElem_cons_succ, List.getElem_cons_zero, List.setIfInBounds_toArray, List.set_cons_zero, List.set_cons_succ])
        refine wpAnyH_ready (rs := [4]) (by kernel_rfl) (by simp) ?_
        refine AllReadyH.cons rfl (fun K hK => ?_) AllReadyH.nil
        go_simp
        go_at_call 73
        (with_reducible refine (imatvalid_any b _).mono ?_)
        rintro e w2 ho
        rw [h2] at ho
        obtain ⟨rfl, hb⟩ : e = .returned (.bool true) ∧ Below _ _ _ := (id ho)
        clear ho
        have HB := Lib.hid (show Below w.heap.size w w2 from HB.out.trans ((show Below _ _ _ from (Below.refl _ _)).trans (hb.mono (by first | omega | (simp <;> omega)))))
        have Hvzero : Hid (w2.rangeAt (1) 0 [.int .i64 0, .int .i64 0, .int .i64 1]) := rangeAt_below Hvzero.out hb (by first | omega | (simp; done) | (simp <;> omega))
        have Ha : Hid (w2.rangeAt (w.heap.size) 0 [.int .i64 a.a.re, .int .i64 a.a.im, .int .i64 a.a.den, .int .i64 a.b.re, .int .i64 a.b.im, .int .i64 a.b.den, .int .i64 a.c.re, .int .i64 a.c.im, .int .i64 a.c.den, .int .i64 a.d.re, .int .i64 a.d.im, .int .i64 a.d.den]) := rangeAt_below Ha.out hb (by first | omega | (simp; done) | (simp <;> omega))
        have Hb : Hid (w2.rangeAt (w.heap.size + 1) 0 [.int .i64 b.a.re, .int .i64 b.a.im, .int .i64 b.a.den, .int .i64 b.b.re, .int .i64 b.b.im, .int .i64 b.b.den, .int .i64 b.c.re, .int .i64 b.c.im, .int .i64 b.c.den, .int .i64 b.d.re, .int .i64 b.d.im, .int .i64 b.d.den]) := rangeAt_below Hb.out hb (by first | omega | (simp; done) | (simp <;> omega))
        have Hnn : Hid (w2.rangeAt (w.heap.size + 1 + 1) 0 [.int .i64 0, .int .i64 0, .int .i64 1, .int .i64 0, .int .i64 0, .int .i64 1, .int .i64 0, .int .i64 0, .int .i64 1, .int .i64 0, .int .i64 0, .int .i64 1]) := rangeAt_below Hnn.out hb (by first | omega | (simp; done) | (simp <;> omega))
        have hz2 := hb.size
        (try simp at hz2)
        clear hb
        have hne2 : ¬ w2.heap = #[] := fun h => absurd (show 1 < 0 from (by have hh : 1 < w2.heap.size := (by omega); rw [h] at hh; exact hh)) (Nat.not_lt_zero _)
        have nA0 : 1 < w2.heap.size := by omega
        have nB0 : ¬ 1 = w2.heap.size := by omega
        have nC0 : ¬ w2.heap.size = 1 := by omega
        have nA1 : w.heap.size < w2.heap.size := by omega
        have nB1 : ¬ w.heap.size = w2.heap.size := by omega
        have nC1 : ¬ w2.heap.size = w.heap.size := by omega
        have nA2 : w.heap.size + 1 < w2.heap.size := by omega
        have nB2 : ¬ w.heap.size + 1 = w2.heap.size := by omega
        have nC2 : ¬ w2.heap.size = w.heap.size + 1 := by omega
        have nA3 : w.heap.size + 1 + 1 < w2.heap.size := by omega
        have nB3 : ¬ w.heap.size + 1 + 1 = w2.heap.size := by omega
        have nC3 : ¬ w2.heap.size = w.heap.size + 1 + 1 := by omega
        refine hK.out _ _ (show _ from ⟨(cellsM Ha.out), (cellsM Hb.out)⟩) (fun hHeld => ?_)
        clear hK K
        (try simp only [Act.put, List.getElem_toArray, List.getElem_cons_succ, List.getElem_cons_zero, List.setIfInBounds_toArray, List.set_cons_zero, List.set_cons_succ])
        refine wpAnyH_take (i := 5) (v := ?_) rfl (by kernel_rfl) (by kernel_rfl) (by kernel_rfl) (fun _ _ _ h => h) (Or.inl ⟨by rfl, ?_⟩) (by assumption) ?_
        rotate_left
        (focus (intro w hSw; (try dsimp only at hSw); go_simp; (try with_reducible rfl)))
        (try simp only [Act.put, List.getElem_toArray, List.getElem_cons_succ, List.getElem_cons_zero, List.setIfInBounds_toArray, List.set_cons_zero, List.set_cons_succ])
        refine wpAnyH_take (i := 6) (v := ?_) rfl (by kernel_rfl) (by kernel_rfl) (by kernel_rfl) (fun _ _ _ h => h) (Or.inl ⟨by rfl, ?_⟩) (by assumption) ?_
        rotate_left
        (focus (intro w hSw; (try dsimp only at hSw); go_simp; (try with_reducible rfl)))
        (try simp only [Act.put, List.getElem_toArray, List.getElem_cons_succ, List.getElem_cons_zero, List.setIfInBounds_toArray, List.set_cons_zero, List.set_cons_succ])
        refine wpAnyH_take (i := 7) (v := ?_) rfl (by kernel_rfl) (by kernel_rfl) (by kernel_rfl) (fun _ _ _ h => h) (Or.inl ⟨by rfl, ?_⟩) (by assumption) ?_
        rotate_left
        (focus (intro w hSw; (try dsimp only at hSw); go_simp; (try with_reducible rfl)))
        (try simp only [Act.put, List.getElem_toArray, List.getElem_cons_succ, List.getElem_cons_zero, List.setIfInBounds_toArray, List.set_cons_zero, List.set_cons_succ])
        refine wpAnyH_take (i := 8) (v := ?_) rfl (by kernel_rfl) (by kernel_rfl) (by kernel_rfl) (fun _ _ _ h => h) (Or.inl ⟨by rfl, ?_⟩) (by assumption) ?_
        rotate_left
        (focus (intro w hSw; (try dsimp only at hSw); go_simp; (try with_reducible rfl)))
        (try simp only [Act.put, List.getElem_toArray, List.getElem_cons_succ, List.getElem_cons_zero, List.setIfInBounds_toArray, List.set_cons_zero, List.set_cons_succ])
        refine wpAnyH_take (i := 9) (v := ?_) rfl (by kernel_rfl) (by kernel_rfl) (by kernel_rfl) (fun _ _ _ h => h) (Or.inl ⟨by rfl, ?_⟩) (by assumption) ?_
        rotate_left
        (focus (intro w hSw; (try dsimp only at hSw); go_simp; (try with_reducible rfl)))
        (try simp only [Act.put, List.getElem_toArray, List.getElem_cons_succ, List.getElem_cons_zero, List.setIfInBounds_toArray, List.set_cons_zero, List.set_cons_succ])
        refine wpAnyH_take (i := 10) (v := ?_) rfl (by kernel_rfl) (by kernel_rfl) (by kernel_rfl) (fun _ _ _ h => h) (Or.inl ⟨by rfl, ?_⟩) (by assumption) ?_
        rotate_left
        (focus (intro w hSw; (try dsimp only at hSw); go_simp; (try with_reducible rfl)))
        (try simp only [Act.put, List.getElem_toArray, List.getElem_cons_succ, List.getElem_cons_zero, List.setIfInBounds_toArray, List.set_cons_zero, List.set_cons_succ])
        refine wpAnyH_ready (rs := [11]) (by kernel_rfl) (by simp) ?_
        refine AllReadyH.cons rfl (fun K hK => ?_) AllReadyH.nil
        go_simp
        go_at_call 74
        (with_reducible refine (crossed_any a b (w.heap.size) (w.heap.size + 1) _ (show w.heap.size < w2.heap.size by omega) (show w.heap.size + 1 < w2.heap.size by omega) (box_of4 Ha.out) (box_of4 Hb.out)).mono ?_)
        rintro e w3 ho
        rw [h3] at ho
        obtain ⟨rfl, hb⟩ : e = .returned (.bool false) ∧ Below _ _ _ := (id ho)
        clear ho
        have HB := Lib.hid (show Below w.heap.size w w3 from HB.out.trans ((show Below _ _ _ from (Below.refl _ _)).trans (hb.mono (by first | omega | (simp <;> omega)))))
        have Hvzero : Hid (w3.rangeAt (1) 0 [.int .i64 0, .int .i64 0, .int .i64 1]) := rangeAt_below Hvzero.out hb (by first | omega | (simp; done) | (simp <;> omega))
        have Ha : Hid (w3.rangeAt (w.heap.size) 0 [.int .i64 a.a.re, .int .i64 a.a.im, .int .i64 a.a.den, .int .i64 a.b.re, .int .i64 a.b.im, .int .i64 a.b.den, .int .i64 a.c.re, .int .i64 a.c.im, .int .i64 a.c.den, .int .i64 a.d.re, .int .i64 a.d.im, .int .i64 a.d.den]) := rangeAt_below Ha.out hb (by first | omega | (simp; done) | (simp <;> omega))
        have Hb : Hid (w3.rangeAt (w.heap.size + 1) 0 [.int .i64 b.a.re, .int .i64 b.a.im, .int .i64 b.a.den, .int .i64 b.b.re, .int .i64 b.b.im, .int .i64 b.b.den, .int .i64 b.c.re, .int .i64 b.c.im, .int .i64 b.c.den, .int .i64 b.d.re, .int .i64 b.d.im, .int .i64 b.d.den]) := rangeAt_below Hb.out hb (by first | omega | (simp; done) | (simp <;> omega))
        have Hnn : Hid (w3.rangeAt (w.heap.size + 1 + 1) 0 [.int .i64 0, .int .i64 0, .int .i64 1, .int .i64 0, .int .i64 0, .int .i64 1, .int .i64 0, .int .i64 0, .int .i64 1, .int .i64 0, .int .i64 0, .int .i64 1]) := rangeAt_below Hnn.out hb (by first | omega | (simp; done) | (simp <;> omega))
        have hz3 := hb.size
        (try simp at hz3)
        clear hb
        have hne3 : ¬ w3.heap = #[] := fun h => absurd (show 1 < 0 from (by have hh : 1 < w3.heap.size := (by omega); rw [h] at hh; exact hh)) (Nat.not_lt_zero _)
        have nA0 : 1 < w3.heap.size := by omega
        have nB0 : ¬ 1 = w3.heap.size := by omega
        have nC0 : ¬ w3.heap.size = 1 := by omega
        have nA1 : w.heap.size < w3.heap.size := by omega
        have nB1 : ¬ w.heap.size = w3.heap.size := by omega
        have nC1 : ¬ w3.heap.size = w.heap.size := by omega
        have nA2 : w.heap.size + 1 < w3.heap.size := by omega
        have nB2 : ¬ w.heap.size + 1 = w3.heap.size := by omega
        have nC2 : ¬ w3.heap.size = w.heap.size + 1 := by omega
        have nA3 : w.heap.size + 1 + 1 < w3.heap.size := by omega
        have nB3 : ¬ w.heap.size + 1 + 1 = w3.heap.size := by omega
        have nC3 : ¬ w3.heap.size = w.heap.size + 1 + 1 := by omega
        refine hK.out _ _ (show _ from ⟨(cellsM Ha.out), (cellsM Hb.out)⟩) (fun hHeld => ?_)
        clear hK K
        (try simp only [Act.put, List.getElem_toArray, List.getElem_cons_succ, List.getElem_cons_zero, List.setIfInBounds_toArray, List.set_cons_zero, List.set_cons_succ])
        refine wpAnyH_take (i := 12) (v := ?_) rfl (by kernel_rfl) (by kernel_rfl) (by kernel_rfl) (fun _ _ _ h => h) (Or.inl ⟨by rfl, ?_⟩) (by assumption) ?_
        rotate_left
        (focus (intro w hSw; (try dsimp only at hSw); go_simp; (try with_reducible rfl)))
        (try simp only [Act.put, List.getElem_toArray, List.getElem_cons_succ, List.getElem_cons_zero, List.setIfInBounds_toArray, List.set_cons_zero, List.set_cons_succ])
        refine wpAnyH_take (i := 13) (v := ?_) rfl (by kernel_rfl) (by kernel_rfl) (by kernel_rfl) (fun _ _ _ h => h) (Or.inl ⟨by rfl, ?_⟩) (by assumption) ?_
        rotate_left
        (focus (intro w hSw; (try dsimp only at hSw); go_simp; (try with_reducible rfl)))
        (try simp only [Act.put, List.getElem_toArray, List.getElem_cons_succ, List.getElem_cons_zero, List.setIfInBounds_toArray, List.set_cons_zero, List.set_cons_succ])
        refine wpAnyH_take (i := 14) rfl (by kernel_rfl) (by kernel_rfl) (by kernel_rfl) (fun _ _ _ h => h) (Or.inr ⟨by rfl, rfl⟩) (by assumption) ?_
        (try simp only [Act.put, List.getElem_toArray, List.getElem_cons_succ, List.getElem_cons_zero, List.setIfInBounds_toArray, List.set_cons_zero, List.set_cons_succ])
        refine wpAnyH_take (i := 15) rfl (by kernel_rfl) (by kernel_rfl) (by kernel_rfl) (fun _ _ _ h => h) (Or.inr ⟨by rfl, rfl⟩) (by assumption) ?_
        (try simp only [Act.put, List.getElem_toArray, List.getElem_cons_succ, List.getElem_cons_zero, List.setIfInBounds_toArray, List.set_cons_zero, List.set_cons_succ])
        refine wpAnyH_take (i := 16) rfl (by kernel_rfl) (by kernel_rfl) (by kernel_rfl) (fun _ _ _ h => h) (Or.inr ⟨by rfl, rfl⟩) (by assumption) ?_
        (try simp only [Act.put, List.getElem_toArray, List.getElem_cons_succ, List.getElem_cons_zero, List.setIfInBounds_toArray, List.set_cons_zero, List.set_cons_succ])
        refine wpAnyH_take (i := 17) rfl (by kernel_rfl) (by kernel_rfl) (by kernel_rfl) (fun _ _ _ h => h) (Or.inr ⟨by rfl, rfl⟩) (by assumption) ?_
        (try simp only [Act.put, List.getElem_toArray, List.getElem_cons_succ, List.getElem_cons_zero, List.setIfInBounds_toArray, List.set_cons_zero, List.set_cons_succ])
        refine wpAnyH_take (i := 18) rfl (by kernel_rfl) (by kernel_rfl) (by kernel_rfl) (fun _ _ _ h => h) (Or.inr ⟨by rfl, rfl⟩) (by assumption) ?_
        (try simp only [Act.put, List.getElem_toArray, List.getElem_cons_succ, List.getElem_cons_zero, List.setIfInBounds_toArray, List.set_cons_zero, List.set_cons_succ])
        refine wpAnyH_take (i := 19) rfl (by kernel_rfl) (by kernel_rfl) (by kernel_rfl) (fun _ _ _ h => h) (Or.inr ⟨by rfl, rfl⟩) (by assumption) ?_
        (try simp only [Act.put, List.getElem_toArray, List.getElem_cons_succ, List.getElem_cons_zero, List.setIfInBounds_toArray, List.set_cons_zero, List.set_cons_succ])
        refine wpAnyH_take (i := 20) rfl (by kernel_rfl) (by kernel_rfl) (by kernel_rfl) (fun _ _ _ h => h) (Or.inr ⟨by rfl, rfl⟩) (by assumption) ?_
        (try simp only [Act.put, List.getElem_toArray, List.getElem_cons_succ, List.getElem_cons_zero, List.setIfInBounds_toArray, List.set_cons_zero, List.set_cons_succ])
        refine wpAnyH_take (i := 21) rfl (by kernel_rfl) (by kernel_rfl) (by kernel_rfl) (fun _ _ _ h => h) (Or.inr ⟨by rfl, rfl⟩) (by assumption) ?_
        (try simp only [Act.put, List.getElem_toArray, List.getElem_cons_succ, List.getElem_cons_zero, List.setIfInBounds_toArray, List.set_cons_zero, List.set_cons_succ])
        refine wpAnyH_take (i := 22) rfl (by kernel_rfl) (by kernel_rfl) (by kernel_rfl) (fun _ _ _ h => h) (Or.inr ⟨by rfl, rfl⟩) (by assumption) ?_
        (try simp only [Act.put, List.getElem_toArray, List.getElem_cons_succ, List.getElem_cons_zero, List.setIfInBounds_toArray, List.set_cons_zero, List.set_cons_succ])
        refine wpAnyH_take (i := 23) (v := ?_) rfl (by kernel_rfl) (by kernel_rfl) (by kernel_rfl) (fun _ _ _ h => h) (Or.inl ⟨by rfl, ?_⟩) (by assumption) ?_
        rotate_left
        (focus (intro w hSw; (try dsimp only at hSw); go_simp; (try with_reducible rfl)))
        (try simp only [Act.put, List.getElem_toArray, List.getElem_cons_succ, List.getElem_cons_zero, List.setIfInBounds_toArray, List.set_cons_zero, List.set_cons_succ])
        refine wpAnyH_take (i := 24) (v := ?_) rfl (by kernel_rfl) (by kernel_rfl) (by kernel_rfl) (fun _ _ _ h => h) (Or.inl ⟨by rfl, ?_⟩) (by assumption) ?_
        rotate_left
        (focus (intro w hSw; (try dsimp only at hSw); go_simp; (try with_reducible rfl)))
        (try simp only [Act.put, List.getElem_toArray, List.getElem_cons_succ, List.getElem_cons_zero, List.setIfInBounds_toArray, List.set_cons_zero, List.set_cons_succ])
        refine wpAnyH_done (by kernel_rfl) ?_ _
        clear hHeld
        go_wp2_with fail
        go_ret
        exact ⟨by rw [HG.out]; rfl, (by (repeat' first | (with_reducible exact HB.out) | with_reducible refine setCells_below _ _ _ ?_ (by first | omega | (simp <;> omega)) | with_reducible refine Below.setCell ?_ (by show _ ≤ _; first | omega | (simp <;> omega) | simp) _ | with_reducible refine Below.alloc ?_ (by first | omega | (simp <;> omega)) _ | with_reducible apply Below.drew | with_reducible refine below_drewN ?_ _))⟩
      · skip
        have hda := dkM_eq h1
        have hdb := dkM_eq h2
        obtain ⟨da, hda2⟩ : ∃ d, d = m4B a mZ := ⟨_, rfl⟩
        obtain ⟨db, hdb2⟩ : ∃ d, d = m4B b mZ := ⟨_, rfl⟩
        have HG : Hid (gMAl a b = (da == db)) := by show _ = _; unfold gMAl; rw [h1, h2, h3, hda, hdb, hda2, hdb2]; simp
        have hEa : ∀ w, (Op.equalIn 10000 39 (.agg #[.int .i64 a.a.re, .int .i64 a.a.im, .int .i64 a.a.den, .int .i64 a.b.re, .int .i64 a.b.im, .int .i64 a.b.den, .int .i64 a.c.re, .int .i64 a.c.im, .int .i64 a.c.den, .int .i64 a.d.re, .int .i64 a.d.im, .int .i64 a.d.den]) (.agg #[.int .i64 0, .int .i64 0, .int .i64 1, .int .i64 0, .int .i64 0, .int .i64 1, .int .i64 0, .int .i64 0, .int .i64 1, .int .i64 0, .int .i64 0, .int .i64 1])).run Tryd.prog w = .ok da w := fun w => by have := eqArr_run a mZ 9997 w; rw [← hda2] at this; exact this
        have hEb : ∀ w, (Op.equalIn 10000 39 (.agg #[.int .i64 b.a.re, .int .i64 b.a.im, .int .i64 b.a.den, .int .i64 b.b.re, .int .i64 b.b.im, .int .i64 b.b.den, .int .i64 b.c.re, .int .i64 b.c.im, .int .i64 b.c.den, .int .i64 b.d.re, .int .i64 b.d.im, .int .i64 b.d.den]) (.agg #[.int .i64 0, .int .i64 0, .int .i64 1, .int .i64 0, .int .i64 0, .int .i64 1, .int .i64 0, .int .i64 0, .int .i64 1, .int .i64 0, .int .i64 0, .int .i64 1])).run Tryd.prog w = .ok db w := fun w => by have := eqArr_run b mZ 9997 w; rw [← hdb2] at this; exact this
        clear hda hdb hda2 hdb2
        have HB : Hid (Below w.heap.size w w) := Below.refl _ _
        have hlt_zero := hg_zero.lt
        have Hvzero : Hid (w.rangeAt 1 0 [.int .i64 0, .int .i64 0, .int .i64 1]) := by show World.rangeAt _ _ _ _; exact rangeOf1 hg_zero.box
        have HG_zero := Lib.hid hg_zero; clear hg_zero
        go_enter Tryd.func23, Tryd.ntmps23
        go_wp2_with (first | ((with_reducible refine wpList_load_mid ?kl131 23 ?kl13x ?kl132 (1) 0 ?kl133 [.int .i64 0, .int .i64 0, .int .i64 1] ?kl13d ?kl134 ?kl135 ?kl136 ?kl137 ?kl138); (case kl132 => rfl); (case kl131 => rfl); (case kl133 => rfl); (case kl134 => (exact (World.rangeAt_alloc (World.rangeAt_alloc Hvzero.out _) _))); (case kl135 => exact Tryd.underlying23); (case kl136 => rfl); (case kl137 => kernel_rfl)) | ((with_reducible refine wpList_load_mid ?kl141 23 ?kl14x ?kl142 (1) 0 ?kl143 [.int .i64 0, .int .i64 0, .int .i64 1] ?kl14d ?kl144 ?kl145 ?kl146 ?kl147 ?kl148); (case kl142 => rfl); (case kl141 => rfl); (case kl143 => rfl); (case kl144 => (exact (World.rangeAt_alloc (World.rangeAt_alloc Hvzero.out _) _))); (case kl145 => exact Tryd.underlying23); (case kl146 => rfl); (case kl147 => kernel_rfl)) | ((with_reducible refine wpList_load_mid ?kl151 23 ?kl15x ?kl152 (1) 0 ?kl153 [.int .i64 0, .int .i64 0, .int .i64 1] ?kl15d ?kl154 ?kl155 ?kl156 ?kl157 ?kl158); (case kl152 => rfl); (case kl151 => rfl); (case kl153 => rfl); (case kl154 => (exact (World.rangeAt_alloc (World.rangeAt_alloc Hvzero.out _) _))); (case kl155 => exact Tryd.underlying23); (case kl156 => rfl); (case kl157 => kernel_rfl)) | ((with_reducible refine wpList_load_mid ?kl161 23 ?kl16x ?kl162 (1) 0 ?kl163 [.int .i64 0, .int .i64 0, .int .i64 1] ?kl16d ?kl164 ?kl165 ?kl166 ?kl167 ?kl168); (case kl162 => rfl); (case kl161 => rfl); (case kl163 => rfl); (case kl164 => (exact (World.rangeAt_alloc (World.rangeAt_alloc Hvzero.out _) _))); (case kl165 => exact Tryd.underlying23); (case kl166 => rfl); (case kl167 => kernel_rfl)))
        refine wp_region_held_drew (S := (fun w' => (w'.cell? ⟨w.heap.size, 0, none⟩ = some (.int .i64 a.a.re) ∧ w'.cell? ⟨w.heap.size, 1, none⟩ = some (.int .i64 a.a.im) ∧ w'.cell? ⟨w.heap.size, 2, none⟩ = some (.int .i64 a.a.den) ∧ w'.cell? ⟨w.heap.size, 3, none⟩ = some (.int .i64 a.b.re) ∧ w'.cell? ⟨w.heap.size, 4, none⟩ = some (.int .i64 a.b.im) ∧ w'.cell? ⟨w.heap.size, 5, none⟩ = some (.int .i64 a.b.den) ∧ w'.cell? ⟨w.heap.size, 6, none⟩ = some (.int .i64 a.c.re) ∧ w'.cell? ⟨w.heap.size, 7, none⟩ = some (.int .i64 a.c.im) ∧ w'.cell? ⟨w.heap.size, 8, none⟩ = some (.int .i64 a.c.den) ∧ w'.cell? ⟨w.heap.size, 9, none⟩ = some (.int .i64 a.d.re) ∧ w'.cell? ⟨w.heap.size, 10, none⟩ = some (.int .i64 a.d.im) ∧ w'.cell? ⟨w.heap.size, 11, none⟩ = some (.int .i64 a.d.den)) ∧ (w'.cell? ⟨w.heap.size + 1, 0, none⟩ = some (.int .i64 b.a.re) ∧ w'.cell? ⟨w.heap.size + 1, 1, none⟩ = some (.int .i64 b.a.im) ∧ w'.cell? ⟨w.heap.size + 1, 2, none⟩ = some (.int .i64 b.a.den) ∧ w'.cell? ⟨w.heap.size + 1, 3, none⟩ = some (.int .i64 b.b.re) ∧ w'.cell? ⟨w.heap.size + 1, 4, none⟩ = some (.int .i64 b.b.im) ∧ w'.cell? ⟨w.heap.size + 1, 5, none⟩ = some (.int .i64 b.b.den) ∧ w'.cell? ⟨w.heap.size + 1, 6, none⟩ = some (.int .i64 b.c.re) ∧ w'.cell? ⟨w.heap.size + 1, 7, none⟩ = some (.int .i64 b.c.im) ∧ w'.cell? ⟨w.heap.size + 1, 8, none⟩ = some (.int .i64 b.c.den) ∧ w'.cell? ⟨w.heap.size + 1, 9, none⟩ = some (.int .i64 b.d.re) ∧ w'.cell? ⟨w.heap.size + 1, 10, none⟩ = some (.int .i64 b.d.im) ∧ w'.cell? ⟨w.heap.size + 1, 11, none⟩ = some (.int .i64 b.d.den)) ∧ (w'.cell? ⟨w.heap.size + 1 + 1, 0, none⟩ = some (.int .i64 0) ∧ w'.cell? ⟨w.heap.size + 1 + 1, 1, none⟩ = some (.int .i64 0) ∧ w'.cell? ⟨w.heap.size + 1 + 1, 2, none⟩ = some (.int .i64 1) ∧ w'.cell? ⟨w.heap.size + 1 + 1, 3, none⟩ = some (.int .i64 0) ∧ w'.cell? ⟨w.heap.size + 1 + 1, 4, none⟩ = some (.int .i64 0) ∧ w'.cell? ⟨w.heap.size + 1 + 1, 5, none⟩ = some (.int .i64 1) ∧ w'.cell? ⟨w.heap.size + 1 + 1, 6, none⟩ = some (.int .i64 0) ∧ w'.cell? ⟨w.heap.size + 1 + 1, 7, none⟩ = some (.int .i64 0) ∧ w'.cell? ⟨w.heap.size + 1 + 1, 8, none⟩ = some (.int .i64 1) ∧ w'.cell? ⟨w.heap.size + 1 + 1, 9, none⟩ = some (.int .i64 0) ∧ w'.cell? ⟨w.heap.size + 1 + 1, 10, none⟩ = some (.int .i64 0) ∧ w'.cell? ⟨w.heap.size + 1 + 1, 11, none⟩ = some (.int .i64 1)))) (by kernel_rfl) (show _ from ⟨(cellsM (show World.rangeAt (World.drew (((w.alloc (.cells #[.int .i64 a.a.re, .int .i64 a.a.im, .int .i64 a.a.den, .int .i64 a.b.re, .int .i64 a.b.im, .int .i64 a.b.den, .int .i64 a.c.re, .int .i64 a.c.im, .int .i64 a.c.den, .int .i64 a.d.re, .int .i64 a.d.im, .int .i64 a.d.den] 41)).alloc (.cells #[.int .i64 b.a.re, .int .i64 b.a.im, .int .i64 b.a.den, .int .i64 b.b.re, .int .i64 b.b.im, .int .i64 b.b.den, .int .i64 b.c.re, .int .i64 b.c.im, .int .i64 b.c.den, .int .i64 b.d.re, .int .i64 b.d.im, .int .i64 b.d.den] 41)).alloc (.cells #[.int .i64 0, .int .i64 0, .int .i64 1, .int .i64 0, .int .i64 0, .int .i64 1, .int .i64 0, .int .i64 0, .int .i64 1, .int .i64 0, .int .i64 0, .int .i64 1] 39))) (w.heap.size) 0 [.int .i64 a.a.re, .int .i64 a.a.im, .int .i64 a.a.den, .int .i64 a.b.re, .int .i64 a.b.im, .int .i64 a.b.den, .int .i64 a.c.re, .int .i64 a.c.im, .int .i64 a.c.den, .int .i64 a.d.re, .int .i64 a.d.im, .int .i64 a.d.den] from (World.rangeAt_alloc (World.rangeAt_alloc (rangeAt_new _ _ _) _) _))), (cellsM (show World.rangeAt (World.drew (((w.alloc (.cells #[.int .i64 a.a.re, .int .i64 a.a.im, .int .i64 a.a.den, .int .i64 a.b.re, .int .i64 a.b.im, .int .i64 a.b.den, .int .i64 a.c.re, .int .i64 a.c.im, .int .i64 a.c.den, .int .i64 a.d.re, .int .i64 a.d.im, .int .i64 a.d.den] 41)).alloc (.cells #[.int .i64 b.a.re, .int .i64 b.a.im, .int .i64 b.a.den, .int .i64 b.b.re, .int .i64 b.b.im, .int .i64 b.b.den, .int .i64 b.c.re, .int .i64 b.c.im, .int .i64 b.c.den, .int .i64 b.d.re, .int .i64 b.d.im, .int .i64 b.d.den] 41)).alloc (.cells #[.int .i64 0, .int .i64 0, .int .i64 1, .int .i64 0, .int .i64 0, .int .i64 1, .int .i64 0, .int .i64 0, .int .i64 1, .int .i64 0, .int .i64 0, .int .i64 1] 39))) (w.heap.size + 1) 0 [.int .i64 b.a.re, .int .i64 b.a.im, .int .i64 b.a.den, .int .i64 b.b.re, .int .i64 b.b.im, .int .i64 b.b.den, .int .i64 b.c.re, .int .i64 b.c.im, .int .i64 b.c.den, .int .i64 b.d.re, .int .i64 b.d.im, .int .i64 b.d.den] from (World.rangeAt_alloc (rangeAt_nw (by simp)) _))), (cellsM (show World.rangeAt (World.drew (((w.alloc (.cells #[.int .i64 a.a.re, .int .i64 a.a.im, .int .i64 a.a.den, .int .i64 a.b.re, .int .i64 a.b.im, .int .i64 a.b.den, .int .i64 a.c.re, .int .i64 a.c.im, .int .i64 a.c.den, .int .i64 a.d.re, .int .i64 a.d.im, .int .i64 a.d.den] 41)).alloc (.cells #[.int .i64 b.a.re, .int .i64 b.a.im, .int .i64 b.a.den, .int .i64 b.b.re, .int .i64 b.b.im, .int .i64 b.b.den, .int .i64 b.c.re, .int .i64 b.c.im, .int .i64 b.c.den, .int .i64 b.d.re, .int .i64 b.d.im, .int .i64 b.d.den] 41)).alloc (.cells #[.int .i64 0, .int .i64 0, .int .i64 1, .int .i64 0, .int .i64 0, .int .i64 1, .int .i64 0, .int .i64 0, .int .i64 1, .int .i64 0, .int .i64 0, .int .i64 1] 39))) (w.heap.size + 1 + 1) 0 [.int .i64 0, .int .i64 0, .int .i64 1, .int .i64 0, .int .i64 0, .int .i64 1, .int .i64 0, .int .i64 0, .int .i64 1, .int .i64 0, .int .i64 0, .int .i64 1] from (rangeAt_nw (by simp))))⟩) (fun hHeld => ?_)
        refine wpAnyH_take (i := 0) (v := ?_) rfl (by kernel_rfl) (by kernel_rfl) (by kernel_rfl) (fun _ _ _ h => h) (Or.inl ⟨by rfl, ?_⟩) (by assumption) ?_
        rotate_left
        (focus (intro w hSw; (try dsimp only at hSw); go_simp; (try with_reducible rfl)))
        (try simp only [Act.put, List.getElem_toArray, List.getElem_cons_zero, List.setIfInBounds_toArray, List.set_cons_zero, List.set_cons_succ])
        refine wpAnyH_ready (rs := [1]) (by kernel_rfl) (by simp) ?_
        refine AllReadyH.cons rfl (fun K hK => ?_) AllReadyH.nil
        go_simp
        go_at_call 73
        (with_reducible refine (imatvalid_any a _).mono ?_)
        rintro e w1 ho
        rw [h1] at ho
        obtain ⟨rfl, hb⟩ : e = .returned (.bool true) ∧ Below _ _ _ := (id ho)
        clear ho
        have HB := Lib.hid (show Below w.heap.size w w1 from HB.out.trans ((show Below _ _ _ from (((((Below.refl _ _).alloc (by first | omega | (simp; done) | (simp <;> omega)) _).alloc (by first | omega | (simp; done) | (simp <;> omega)) _).alloc (by first | omega | (simp; done) | (simp <;> omega)) _).drew)).trans (hb.mono (by first | omega | (simp <;> omega)))))
        have Hvzero : Hid (w1.rangeAt (1) 0 [.int .i64 0, .int .i64 0, .int .i64 1]) := rangeAt_below (show World.rangeAt (World.drew (((w.alloc (.cells #[.int .i64 a.a.re, .int .i64 a.a.im, .int .i64 a.a.den, .int .i64 a.b.re, .int .i64 a.b.im, .int .i64 a.b.den, .int .i64 a.c.re, .int .i64 a.c.im, .int .i64 a.c.den, .int .i64 a.d.re, .int .i64 a.d.im, .int .i64 a.d.den] 41)).alloc (.cells #[.int .i64 b.a.re, .int .i64 b.a.im, .int .i64 b.a.den, .int .i64 b.b.re, .int .i64 b.b.im, .int .i64 b.b.den, .int .i64 b.c.re, .int .i64 b.c.im, .int .i64 b.c.den, .int .i64 b.d.re, .int .i64 b.d.im, .int .i64 b.d.den] 41)).alloc (.cells #[.int .i64 0, .int .i64 0, .int .i64 1, .int .i64 0, .int .i64 0, .int .i64 1, .int .i64 0, .int .i64 0, .int .i64 1, .int .i64 0, .int .i64 0, .int .i64 1] 39))) (1) 0 [.int .i64 0, .int .i64 0, .int .i64 1] from (World.rangeAt_alloc (World.rangeAt_alloc (World.rangeAt_alloc Hvzero.out _) _) _)) hb (by first | omega | (simp; done) | (simp <;> omega))
        have Ha : Hid (w1.rangeAt (w.heap.size) 0 [.int .i64 a.a.re, .int .i64 a.a.im, .int .i64 a.a.den, .int .i64 a.b.re, .int .i64 a.b.im, .int .i64 a.b.den, .int .i64 a.c.re, .int .i64 a.c.im, .int .i64 a.c.den, .int .i64 a.d.re, .int .i64 a.d.im, .int .i64 a.d.den]) := rangeAt_below (show World.rangeAt (World.drew (((w.alloc (.cells #[.int .i64 a.a.re, .int .i64 a.a.im, .int .i64 a.a.den, .int .i64 a.b.re, .int .i64 a.b.im, .int .i64 a.b.den, .int .i64 a.c.re, .int .i64 a.c.im, .int .i64 a.c.den, .int .i64 a.d.re, .int .i64 a.d.im, .int .i64 a.d.den] 41)).alloc (.cells #[.int .i64 b.a.re, .int .i64 b.a.im, .int .i64 b.a.den, .int .i64 b.b.re, .int .i64 b.b.im, .int .i64 b.b.den, .int .i64 b.c.re, .int .i64 b.c.im, .int .i64 b.c.den, .int .i64 b.d.re, .int .i64 b.d.im, .int .i64 b.d.den] 41)).alloc (.cells #[.int .i64 0, .int .i64 0, .int .i64 1, .int .i64 0, .int .i64 0, .int .i64 1, .int .i64 0, .int .i64 0, .int .i64 1, .int .i64 0, .int .i64 0, .int .i64 1] 39))) (w.heap.size) 0 [.int .i64 a.a.re, .int .i64 a.a.im, .int .i64 a.a.den, .int .i64 a.b.re, .int .i64 a.b.im, .int .i64 a.b.den, .int .i64 a.c.re, .int .i64 a.c.im, .int .i64 a.c.den, .int .i64 a.d.re, .int .i64 a.d.im, .int .i64 a.d.den] from (World.rangeAt_alloc (World.rangeAt_alloc (rangeAt_new _ _ _) _) _)) hb (by first | omega | (simp; done) | (simp <;> omega))
        have Hb : Hid (w1.rangeAt (w.heap.size + 1) 0 [.int .i64 b.a.re, .int .i64 b.a.im, .int .i64 b.a.den, .int .i64 b.b.re, .int .i64 b.b.im, .int .i64 b.b.den, .int .i64 b.c.re, .int .i64 b.c.im, .int .i64 b.c.den, .int .i64 b.d.re, .int .i64 b.d.im, .int .i64 b.d.den]) := rangeAt_below (show World.rangeAt (World.drew (((w.alloc (.cells #[.int .i64 a.a.re, .int .i64 a.a.im, .int .i64 a.a.den, .int .i64 a.b.re, .int .i64 a.b.im, .int .i64 a.b.den, .int .i64 a.c.re, .int .i64 a.c.im, .int .i64 a.c.den, .int .i64 a.d.re, .int .i64 a.d.im, .int .i64 a.d.den] 41)).alloc (.cells #[.int .i64 b.a.re, .int .i64 b.a.im, .int .i64 b.a.den, .int .i64 b.b.re, .int .i64 b.b.im, .int .i64 b.b.den, .int .i64 b.c.re, .int .i64 b.c.im, .int .i64 b.c.den, .int .i64 b.d.re, .int .i64 b.d.im, .int .i64 b.d.den] 41)).alloc (.cells #[.int .i64 0, .int .i64 0, .int .i64 1, .int .i64 0, .int .i64 0, .int .i64 1, .int .i64 0, .int .i64 0, .int .i64 1, .int .i64 0, .int .i64 0, .int .i64 1] 39))) (w.heap.size + 1) 0 [.int .i64 b.a.re, .int .i64 b.a.im, .int .i64 b.a.den, .int .i64 b.b.re, .int .i64 b.b.im, .int .i64 b.b.den, .int .i64 b.c.re, .int .i64 b.c.im, .int .i64 b.c.den, .int .i64 b.d.re, .int .i64 b.d.im, .int .i64 b.d.den] from (World.rangeAt_alloc (rangeAt_nw (by simp)) _)) hb (by first | omega | (simp; done) | (simp <;> omega))
        have Hnn : Hid (w1.rangeAt (w.heap.size + 1 + 1) 0 [.int .i64 0, .int .i64 0, .int .i64 1, .int .i64 0, .int .i64 0, .int .i64 1, .int .i64 0, .int .i64 0, .int .i64 1, .int .i64 0, .int .i64 0, .int .i64 1]) := rangeAt_below (show World.rangeAt (World.drew (((w.alloc (.cells #[.int .i64 a.a.re, .int .i64 a.a.im, .int .i64 a.a.den, .int .i64 a.b.re, .int .i64 a.b.im, .int .i64 a.b.den, .int .i64 a.c.re, .int .i64 a.c.im, .int .i64 a.c.den, .int .i64 a.d.re, .int .i64 a.d.im, .int .i64 a.d.den] 41)).alloc (.cells #[.int .i64 b.a.re, .int .i64 b.a.im, .int .i64 b.a.den, .int .i64 b.b.re, .int .i64 b.b.im, .int .i64 b.b.den, .int .i64 b.c.re, .int .i64 b.c.im, .int .i64 b.c.den, .int .i64 b.d.re, .int .i64 b.d.im, .int .i64 b.d.den] 41)).alloc (.cells #[.int .i64 0, .int .i64 0, .int .i64 1, .int .i64 0, .int .i64 0, .int .i64 1, .int .i64 0, .int .i64 0, .int .i64 1, .int .i64 0, .int .i64 0, .int .i64 1] 39))) (w.heap.size + 1 + 1) 0 [.int .i64 0, .int .i64 0, .int .i64 1, .int .i64 0, .int .i64 0, .int .i64 1, .int .i64 0, .int .i64 0, .int .i64 1, .int .i64 0, .int .i64 0, .int .i64 1] from (rangeAt_nw (by simp))) hb (by first | omega | (simp; done) | (simp <;> omega))
        have hz1 := hb.size
        (try simp at hz1)
        clear hb
        have hne1 : ¬ w1.heap = #[] := fun h => absurd (show 1 < 0 from (by have hh : 1 < w1.heap.size := (by omega); rw [h] at hh; exact hh)) (Nat.not_lt_zero _)
        have nA0 : 1 < w1.heap.size := by omega
        have nB0 : ¬ 1 = w1.heap.size := by omega
        have nC0 : ¬ w1.heap.size = 1 := by omega
        have nA1 : w.heap.size < w1.heap.size := by omega
        have nB1 : ¬ w.heap.size = w1.heap.size := by omega
        have nC1 : ¬ w1.heap.size = w.heap.size := by omega
        have nA2 : w.heap.size + 1 < w1.heap.size := by omega
        have nB2 : ¬ w.heap.size + 1 = w1.heap.size := by omega
        have nC2 : ¬ w1.heap.size = w.heap.size + 1 := by omega
        have nA3 : w.heap.size + 1 + 1 < w1.heap.size := by omega
        have nB3 : ¬ w.heap.size + 1 + 1 = w1.heap.size := by omega
        have nC3 : ¬ w1.heap.size = w.heap.size + 1 + 1 := by omega
        refine hK.out _ _ (show _ from ⟨(cellsM Ha.out), (cellsM Hb.out), (cellsM Hnn.out)⟩) (fun hHeld => ?_)
        clear hK K
        (try simp only [Act.put, List.getElem_toArray, List.getElem_cons_succ, List.getElem_cons_zero, List.setIfInBounds_toArray, List.set_cons_zero, List.set_cons_succ])
        refine wpAnyH_take (i := 2) (v := ?_) rfl (by kernel_rfl) (by kernel_rfl) (by kernel_rfl) (fun _ _ _ h => h) (Or.inl ⟨by rfl, ?_⟩) (by assumption) ?_
        rotate_left
        (focus (intro w hSw; (try dsimp only at hSw); go_simp; (try with_reducible rfl)))
        (try simp only [Act.put, List.getElem_toArray, List.getElem_cons_succ, List.getElem_cons_zero, List.setIfInBounds_toArray, List.set_cons_zero, List.set_cons_succ])
        refine wpAnyH_take (i := 3) (v := ?_) rfl (by kernel_rfl) (by kernel_rfl) (by kernel_rfl) (fun _ _ _ h => h) (Or.inl ⟨by rfl, ?_⟩) (by assumption) ?_
        rotate_left
        (focus (intro w hSw; (try dsimp only at hSw); go_simp; (try with_reducible rfl)))
        (try simp only [Act.put, List.getElem_toArray, List.getElem_cons_succ, List.getElem_cons_zero, List.setIfInBounds_toArray, List.set_cons_zero, List.set_cons_succ])
        refine wpAnyH_ready (rs := [4]) (by kernel_rfl) (by simp) ?_
        refine AllReadyH.cons rfl (fun K hK => ?_) AllReadyH.nil
        go_simp
        go_at_call 73
        (with_reducible refine (imatvalid_any b _).mono ?_)
        rintro e w2 ho
        rw [h2] at ho
        obtain ⟨rfl, hb⟩ : e = .returned (.bool true) ∧ Below _ _ _ := (id ho)
        clear ho
        have HB := Lib.hid (show Below w.heap.size w w2 from HB.out.trans ((show Below _ _ _ from (Below.refl _ _)).trans (hb.mono (by first | omega | (simp <;> omega)))))
        have Hvzero : Hid (w2.rangeAt (1) 0 [.int .i64 0, .int .i64 0, .int .i64 1]) := rangeAt_below Hvzero.out hb (by first | omega | (simp; done) | (simp <;> omega))
        have Ha : Hid (w2.rangeAt (w.heap.size) 0 [.int .i64 a.a.re, .int .i64 a.a.im, .int .i64 a.a.den, .int .i64 a.b.re, .int .i64 a.b.im, .int .i64 a.b.den, .int .i64 a.c.re, .int .i64 a.c.im, .int .i64 a.c.den, .int .i64 a.d.re, .int .i64 a.d.im, .int .i64 a.d.den]) := rangeAt_below Ha.out hb (by first | omega | (simp; done) | (simp <;> omega))
        have Hb : Hid (w2.rangeAt (w.heap.size + 1) 0 [.int .i64 b.a.re, .int .i64 b.a.im, .int .i64 b.a.den, .int .i64 b.b.re, .int .i64 b.b.im, .int .i64 b.b.den, .int .i64 b.c.re, .int .i64 b.c.im, .int .i64 b.c.den, .int .i64 b.d.re, .int .i64 b.d.im, .int .i64 b.d.den]) := rangeAt_below Hb.out hb (by first | omega | (simp; done) | (simp <;> omega))
        have Hnn : Hid (w2.rangeAt (w.heap.size + 1 + 1) 0 [.int .i64 0, .int .i64 0, .int .i64 1, .int .i64 0, .int .i64 0, .int .i64 1, .int .i64 0, .int .i64 0, .int .i64 1, .int .i64 0, .int .i64 0, .int .i64 1]) := rangeAt_below Hnn.out hb (by first | omega | (simp; done) | (simp <;> omega))
        have hz2 := hb.size
        (try simp at hz2)
        clear hb
        have hne2 : ¬ w2.heap = #[] := fun h => absurd (show 1 < 0 from (by have hh : 1 < w2.heap.size := (by omega); rw [h] at hh; exact hh)) (Nat.not_lt_zero _)
        have nA0 : 1 < w2.heap.size := by omega
        have nB0 : ¬ 1 = w2.heap.size := by omega
        have nC0 : ¬ w2.heap.size = 1 := by omega
        have nA1 : w.heap.size < w2.heap.size := by omega
        have nB1 : ¬ w.heap.size = w2.heap.size := by omega
        have nC1 : ¬ w2.heap.size = w.heap.size := by omega
        have nA2 : w.heap.size + 1 < w2.heap.size := by omega
        have nB2 : ¬ w.heap.size + 1 = w2.heap.size := by omega
        have nC2 : ¬ w2.heap.size = w.heap.size + 1 := by omega
        have nA3 : w.heap.size + 1 + 1 < w2.heap.size := by omega
        have nB3 : ¬ w.heap.size + 1 + 1 = w2.heap.size := by omega
        have nC3 : ¬ w2.heap.size = w.heap.size + 1 + 1 := by omega
        refine hK.out _ _ (show _ from ⟨(cellsM Ha.out), (cellsM Hb.out), (cellsM Hnn.out)⟩) (fun hHeld => ?_)
        clear hK K
        (try simp only [Act.put, List.getElem_toArray, List.getElem_cons_succ, List.getElem_cons_zero, List.setIfInBounds_toArray, List.set_cons_zero, List.set_cons_succ])
        refine wpAnyH_take (i := 5) (v := ?_) rfl (by kernel_rfl) (by kernel_rfl) (by kernel_rfl) (fun _ _ _ h => h) (Or.inl ⟨by rfl, ?_⟩) (by assumption) ?_
        rotate_left
        (focus (intro w hSw; (try dsimp only at hSw); go_simp; (try with_reducible rfl)))
        (try simp only [Act.put, List.getElem_toArray, List.getElem_cons_succ, List.getElem_cons_zero, List.setIfInBounds_toArray, List.set_cons_zero, List.set_cons_succ])
        refine wpAnyH_take (i := 6) (v := ?_) rfl (by kernel_rfl) (by kernel_rfl) (by kernel_rfl) (fun _ _ _ h => h) (Or.inl ⟨by rfl, ?_⟩) (by assumption) ?_
        rotate_left
        (focus (intro w hSw; (try dsimp only at hSw); go_simp; (try with_reducible rfl)))
        (try simp only [Act.put, List.getElem_toArray, List.getElem_cons_succ, List.getElem_cons_zero, List.setIfInBounds_toArray, List.set_cons_zero, List.set_cons_succ])
        refine wpAnyH_take (i := 7) (v := ?_) rfl (by kernel_rfl) (by kernel_rfl) (by kernel_rfl) (fun _ _ _ h => h) (Or.inl ⟨by rfl, ?_⟩) (by assumption) ?_
        rotate_left
        (focus (intro w hSw; (try dsimp only at hSw); go_simp; (try with_reducible rfl)))
        (try simp only [Act.put, List.getElem_toArray, List.getElem_cons_succ, List.getElem_cons_zero, List.setIfInBounds_toArray, List.set_cons_zero, List.set_cons_succ])
        refine wpAnyH_take (i := 8) (v := ?_) rfl (by kernel_rfl) (by kernel_rfl) (by kernel_rfl) (fun _ _ _ h => h) (Or.inl ⟨by rfl, ?_⟩) (by assumption) ?_
        rotate_left
        (focus (intro w hSw; (try dsimp only at hSw); go_simp; (try with_reducible rfl)))
        (try simp only [Act.put, List.getElem_toArray, List.getElem_cons_succ, List.getElem_cons_zero, List.setIfInBounds_toArray, List.set_cons_zero, List.set_cons_succ])
        refine wpAnyH_take (i := 9) (v := ?_) rfl (by kernel_rfl) (by kernel_rfl) (by kernel_rfl) (fun _ _ _ h => h) (Or.inl ⟨by rfl, ?_⟩) (by assumption) ?_
        rotate_left
        (focus (intro w hSw; (try dsimp only at hSw); go_simp; (try with_reducible rfl)))
        (try simp only [Act.put, List.getElem_toArray, List.getElem_cons_succ, List.getElem_cons_zero, List.setIfInBounds_toArray, List.set_cons_zero, List.set_cons_succ])
        refine wpAnyH_take (i := 10) (v := ?_) rfl (by kernel_rfl) (by kernel_rfl) (by kernel_rfl) (fun _ _ _ h => h) (Or.inl ⟨by rfl, ?_⟩) (by assumption) ?_
        rotate_left
        (focus (intro w hSw; (try dsimp only at hSw); go_simp; (try with_reducible rfl)))
        (try simp only [Act.put, List.getElem_toArray, List.getElem_cons_succ, List.getElem_cons_zero, List.setIfInBounds_toArray, List.set_cons_zero, List.set_cons_succ])
        refine wpAnyH_ready (rs := [11]) (by kernel_rfl) (by simp) ?_
        refine AllReadyH.cons rfl (fun K hK => ?_) AllReadyH.nil
        go_simp
        go_at_call 74
        (with_reducible refine (crossed_any a b (w.heap.size) (w.heap.size + 1) _ (show w.heap.size < w2.heap.size by omega) (show w.heap.size + 1 < w2.heap.size by omega) (box_of4 Ha.out) (box_of4 Hb.out)).mono ?_)
        rintro e w3 ho
        rw [h3] at ho
        obtain ⟨rfl, hb⟩ : e = .returned (.bool true) ∧ Below _ _ _ := (id ho)
        clear ho
        have HB := Lib.hid (show Below w.heap.size w w3 from HB.out.trans ((show Below _ _ _ from (Below.refl _ _)).trans (hb.mono (by first | omega | (simp <;> omega)))))
        have Hvzero : Hid (w3.rangeAt (1) 0 [.int .i64 0, .int .i64 0, .int .i64 1]) := rangeAt_below Hvzero.out hb (by first | omega | (simp; done) | (simp <;> omega))
        have Ha : Hid (w3.rangeAt (w.heap.size) 0 [.int .i64 a.a.re, .int .i64 a.a.im, .int .i64 a.a.den, .int .i64 a.b.re, .int .i64 a.b.im, .int .i64 a.b.den, .int .i64 a.c.re, .int .i64 a.c.im, .int .i64 a.c.den, .int .i64 a.d.re, .int .i64 a.d.im, .int .i64 a.d.den]) := rangeAt_below Ha.out hb (by first | omega | (simp; done) | (simp <;> omega))
        have Hb : Hid (w3.rangeAt (w.heap.size + 1) 0 [.int .i64 b.a.re, .int .i64 b.a.im, .int .i64 b.a.den, .int .i64 b.b.re, .int .i64 b.b.im, .int .i64 b.b.den, .int .i64 b.c.re, .int .i64 b.c.im, .int .i64 b.c.den, .int .i64 b.d.re, .int .i64 b.d.im, .int .i64 b.d.den]) := rangeAt_below Hb.out hb (by first | omega | (simp; done) | (simp <;> omega))
        have Hnn : Hid (w3.rangeAt (w.heap.size + 1 + 1) 0 [.int .i64 0, .int .i64 0, .int .i64 1, .int .i64 0, .int .i64 0, .int .i64 1, .int .i64 0, .int .i64 0, .int .i64 1, .int .i64 0, .int .i64 0, .int .i64 1]) := rangeAt_below Hnn.out hb (by first | omega | (simp; done) | (simp <;> omega))
        have hz3 := hb.size
        (try simp at hz3)
        clear hb
        have hne3 : ¬ w3.heap = #[] := fun h => absurd (show 1 < 0 from (by have hh : 1 < w3.heap.size := (by omega); rw [h] at hh; exact hh)) (Nat.not_lt_zero _)
        have nA0 : 1 < w3.heap.size := by omega
        have nB0 : ¬ 1 = w3.heap.size := by omega
        have nC0 : ¬ w3.heap.size = 1 := by omega
        have nA1 : w.heap.size < w3.heap.size := by omega
        have nB1 : ¬ w.heap.size = w3.heap.size := by omega
        have nC1 : ¬ w3.heap.size = w.heap.size := by omega
        have nA2 : w.heap.size + 1 < w3.heap.size := by omega
        have nB2 : ¬ w.heap.size + 1 = w3.heap.size := by omega
        have nC2 : ¬ w3.heap.size = w.heap.size + 1 := by omega
        have nA3 : w.heap.size + 1 + 1 < w3.heap.size := by omega
        have nB3 : ¬ w.heap.size + 1 + 1 = w3.heap.size := by omega
        have nC3 : ¬ w3.heap.size = w.heap.size + 1 + 1 := by omega
        refine hK.out _ _ (show _ from ⟨(cellsM Ha.out), (cellsM Hb.out), (cellsM Hnn.out)⟩) (fun hHeld => ?_)
        clear hK K
        (try simp only [Act.put, List.getElem_toArray, List.getElem_cons_succ, List.getElem_cons_zero, List.setIfInBounds_toArray, List.set_cons_zero, List.set_cons_succ])
        refine wpAnyH_take (i := 12) (v := ?_) rfl (by kernel_rfl) (by kernel_rfl) (by kernel_rfl) (fun _ _ _ h => h) (Or.inl ⟨by rfl, ?_⟩) (by assumption) ?_
        rotate_left
        (focus (intro w hSw; (try dsimp only at hSw); go_simp; (try with_reducible rfl)))
        (try simp only [Act.put, List.getElem_toArray, List.getElem_cons_succ, List.getElem_cons_zero, List.setIfInBounds_toArray, List.set_cons_zero, List.set_cons_succ])
        refine wpAnyH_take (i := 13) (v := ?_) rfl (by kernel_rfl) (by kernel_rfl) (by kernel_rfl) (fun _ _ _ h => h) (Or.inl ⟨by rfl, ?_⟩) (by assumption) ?_
        rotate_left
        (focus (intro w hSw; (try dsimp only at hSw); go_simp; (try with_reducible rfl)))
        (try simp only [Act.put, List.getElem_toArray, List.getElem_cons_succ, List.getElem_cons_zero, List.setIfInBounds_toArray, List.set_cons_zero, List.set_cons_succ])
        refine wpAnyH_take (i := 14) (v := ?_) rfl (by kernel_rfl) (by kernel_rfl) (by kernel_rfl) (fun _ _ _ h => h) (Or.inl ⟨by rfl, ?_⟩) (by assumption) ?_
        rotate_left
        (focus (intro w hSw; (try dsimp only at hSw); go_simp; (try with_reducible rfl)))
        (try simp only [Act.put, List.getElem_toArray, List.getElem_cons_succ, List.getElem_cons_zero, List.setIfInBounds_toArray, List.set_cons_zero, List.set_cons_succ])
        refine wpAnyH_take (i := 15) (v := ?_) rfl (by kernel_rfl) (by kernel_rfl) (by kernel_rfl) (fun _ _ _ h => h) (Or.inl ⟨by rfl, ?_⟩) (by assumption) ?_
        rotate_left
        (focus (intro w hSw; (try dsimp only at hSw); go_simp; (try with_reducible rfl)))
        (try simp only [Act.put, List.getElem_toArray, List.getElem_cons_succ, List.getElem_cons_zero, List.setIfInBounds_toArray, List.set_cons_zero, List.set_cons_succ])
        refine wpAnyH_take (i := 16) (v := ?_) rfl (by kernel_rfl) (by kernel_rfl) (by kernel_rfl) (fun _ _ _ h => h) (Or.inl ⟨by rfl, ?_⟩) (by assumption) ?_
        rotate_left
        (focus (intro w hSw; (try dsimp only at hSw); go_simp; (try with_reducible rfl)))
        (try simp only [Act.put, List.getElem_toArray, List.getElem_cons_succ, List.getElem_cons_zero, List.setIfInBounds_toArray, List.set_cons_zero, List.set_cons_succ])
        refine wpAnyH_take (i := 17) (v := ?_) rfl (by kernel_rfl) (by kernel_rfl) (by kernel_rfl) (fun _ _ _ h => h) (Or.inl ⟨by rfl, ?_⟩) (by assumption) ?_
        rotate_left
        (focus (intro w hSw; (try dsimp only at hSw); go_simp; (try with_reducible rfl)))
        (try simp only [Act.put, List.getElem_toArray, List.getElem_cons_succ, List.getElem_cons_zero, List.setIfInBounds_toArray, List.set_cons_zero, List.set_cons_succ])
        refine wpAnyH_take (i := 18) (v := ?_) rfl (by kernel_rfl) (by kernel_rfl) (by kernel_rfl) (fun _ _ _ h => h) (Or.inl ⟨by rfl, ?_⟩) (by assumption) ?_
        rotate_left
        (focus (intro w hSw; (try dsimp only at hSw); go_simp; (try with_reducible rfl)))
        (try simp only [Act.put, List.getElem_toArray, List.getElem_cons_succ, List.getElem_cons_zero, List.setIfInBounds_toArray, List.set_cons_zero, List.set_cons_succ])
        refine wpAnyH_take (i := 19) (v := ?_) rfl (by kernel_rfl) (by kernel_rfl) (by kernel_rfl) (fun _ _ _ h => h) (Or.inl ⟨by rfl, ?_⟩) (by assumption) ?_
        rotate_left
        (focus (intro w hSw; (try dsimp only at hSw); go_simp; (try with_reducible rfl)))
        (try simp only [Act.put, List.getElem_toArray, List.getElem_cons_succ, List.getElem_cons_zero, List.setIfInBounds_toArray, List.set_cons_zero, List.set_cons_succ])
        refine wpAnyH_take (i := 20) (v := ?_) rfl (by kernel_rfl) (by kernel_rfl) (by kernel_rfl) (fun _ _ _ h => h) (Or.inl ⟨by rfl, ?_⟩) (by assumption) ?_
        rotate_left
        (focus (intro w hSw; (try dsimp only at hSw); go_simp; (try with_reducible rfl)))
        (try simp only [Act.put, List.getElem_toArray, List.getElem_cons_succ, List.getElem_cons_zero, List.setIfInBounds_toArray, List.set_cons_zero, List.set_cons_succ])
        refine wpAnyH_take (i := 21) (v := ?_) rfl (by kernel_rfl) (by kernel_rfl) (by kernel_rfl) (fun _ _ _ h => h) (Or.inl ⟨by rfl, ?_⟩) (by assumption) ?_
        rotate_left
        (focus (intro w hSw; (try dsimp only at hSw); go_simp; (try with_reducible rfl)))
        (try simp only [Act.put, List.getElem_toArray, List.getElem_cons_succ, List.getElem_cons_zero, List.setIfInBounds_toArray, List.set_cons_zero, List.set_cons_succ])
        refine wpAnyH_take (i := 22) (v := ?_) rfl (by kernel_rfl) (by kernel_rfl) (by kernel_rfl) (fun _ _ _ h => h) (Or.inl ⟨by rfl, ?_⟩) (by assumption) ?_
        rotate_left
        (focus (intro w hSw; (try dsimp only at hSw); go_simp; (try with_reducible rfl)))
        (try simp only [Act.put, List.getElem_toArray, List.getElem_cons_succ, List.getElem_cons_zero, List.setIfInBounds_toArray, List.set_cons_zero, List.set_cons_succ])
        refine wpAnyH_take (i := 23) (v := ?_) rfl (by kernel_rfl) (by kernel_rfl) (by kernel_rfl) (fun _ _ _ h => h) (Or.inl ⟨by rfl, ?_⟩) (by assumption) ?_
        rotate_left
        (focus (intro w hSw; (try dsimp only at hSw); go_simp; (try with_reducible rfl)))
        (try simp only [Act.put, List.getElem_toArray, List.getElem_cons_succ, List.getElem_cons_zero, List.setIfInBounds_toArray, List.set_cons_zero, List.set_cons_succ])
        refine wpAnyH_take (i := 24) (v := ?_) rfl (by kernel_rfl) (by kernel_rfl) (by kernel_rfl) (fun _ _ _ h => h) (Or.inl ⟨by rfl, ?_⟩) (by assumption) ?_
        rotate_left
        (focus (intro w hSw; (try dsimp only at hSw); go_simp; (try with_reducible rfl)))
        (try simp only [Act.put, List.getElem_toArray, List.getElem_cons_succ, List.getElem_cons_zero, List.setIfInBounds_toArray, List.set_cons_zero, List.set_cons_succ])
        refine wpAnyH_done (by kernel_rfl) ?_ _
        clear hHeld
        go_wp2_with fail
        go_ret
        exact ⟨by rw [HG.out]; rfl, (by (repeat' first | (with_reducible exact HB.out) | with_reducible refine setCells_below _ _ _ ?_ (by first | omega | (simp <;> omega)) | with_reducible refine Below.setCell ?_ (by show _ ≤ _; first | omega | (simp <;> omega) | simp) _ | with_reducible refine Below.alloc ?_ (by first | omega | (simp <;> omega)) _ | with_reducible apply Below.drew | with_reducible refine below_drewN ?_ _))⟩
end Go.Proofs.YtmcokdiopcpifaaDoor
