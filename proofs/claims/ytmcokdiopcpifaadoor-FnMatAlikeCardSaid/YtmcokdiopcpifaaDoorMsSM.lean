/- Contracts: alike matrices, both sides. -/
import Derived.Test.YtmcokdiopcpifaaDoorMsG18
import Derived.Test.YtmcokdiopcpifaaDoorMsCR
import Derived.Test.YtmcokdiopcpifaaDoorMsG12
import Derived.Test.YtmcokdiopcpifaaDoorMsG20
set_option maxRecDepth 100000
namespace Go.Proofs.YtmcokdiopcpifaaDoor
open Go.RowKit Pol
theorem box_of4 {W : World} {X : Nat} {m : M4} (h : W.rangeAt X 0 [.int .i64 m.a.re, .int .i64 m.a.im, .int .i64 m.a.den, .int .i64 m.b.re, .int .i64 m.b.im, .int .i64 m.b.den, .int .i64 m.c.re, .int .i64 m.c.im, .int .i64 m.c.den, .int .i64 m.d.re, .int .i64 m.d.im, .int .i64 m.d.den]) : BoxAt W X m.get 4 := fun k hk => by
  have e : k = 0 ∨ k = 1 ∨ k = 2 ∨ k = 3 := by omega
  rcases e with rfl | rfl | rfl | rfl
  · exact ⟨by have := h 0 _ rfl; rwa [Nat.zero_add] at this, by have := h 1 _ rfl; rwa [Nat.zero_add] at this, by have := h 2 _ rfl; rwa [Nat.zero_add] at this⟩
  · exact ⟨by have := h 3 _ rfl; rwa [Nat.zero_add] at this, by have := h 4 _ rfl; rwa [Nat.zero_add] at this, by have := h 5 _ rfl; rwa [Nat.zero_add] at this⟩
  · exact ⟨by have := h 6 _ rfl; rwa [Nat.zero_add] at this, by have := h 7 _ rfl; rwa [Nat.zero_add] at this, by have := h 8 _ rfl; rwa [Nat.zero_add] at this⟩
  · exact ⟨by have := h 9 _ rfl; rwa [Nat.zero_add] at this, by have := h 10 _ rfl; rwa [Nat.zero_add] at this, by have := h 11 _ rfl; rwa [Nat.zero_add] at this⟩
theorem dkM_all (a : M4) : dkM a = all4 dkF a := by
  rw [Bool.eq_iff_iff, all4_iff]; unfold dkM; simp [and_assoc]
theorem dkM_eq {a : M4} (h : all4 vld a = true) : dkM a = m4B a mZ := by
  obtain ⟨h1, h2, h3, h4⟩ := all4_iff.1 h
  rw [Bool.eq_iff_iff, m4B_iff]
  unfold dkM
  simp only [Bool.and_eq_true]
  rw [dkF_f0 h1, dkF_f0 h2, dkF_f0 h3, dkF_f0 h4]
  constructor
  · rintro ⟨⟨⟨e1, e2⟩, e3⟩, e4⟩; exact m4E_ext e1 e2 e3 e4
  · intro e; rw [e]; exact ⟨⟨⟨rfl, rfl⟩, rfl⟩, rfl⟩
set_option maxHeartbeats 4000000 in
theorem sdark_any (m : M4) (w : World) :
    Calls Tryd.prog 70 #[.agg #[.int .i64 m.a.re, .int .i64 m.a.im, .int .i64 m.a.den, .int .i64 m.b.re, .int .i64 m.b.im, .int .i64 m.b.den, .int .i64 m.c.re, .int .i64 m.c.im, .int .i64 m.c.den, .int .i64 m.d.re, .int .i64 m.d.im, .int .i64 m.d.den]] w fun e w' => e = .returned (.bool (dkM m)) ∧ Below w.heap.size w w' := by
  rw [dkM_all]
  have HS : Hid (∀ k, k < 4 → (#[.int .i64 m.a.re, .int .i64 m.a.im, .int .i64 m.a.den, .int .i64 m.b.re, .int .i64 m.b.im, .int .i64 m.b.den, .int .i64 m.c.re, .int .i64 m.c.im, .int .i64 m.c.den, .int .i64 m.d.re, .int .i64 m.d.im, .int .i64 m.d.den] : Array Value)[k * 3]? = some (.int .i64 (m.get k).re) ∧ (#[.int .i64 m.a.re, .int .i64 m.a.im, .int .i64 m.a.den, .int .i64 m.b.re, .int .i64 m.b.im, .int .i64 m.b.den, .int .i64 m.c.re, .int .i64 m.c.im, .int .i64 m.c.den, .int .i64 m.d.re, .int .i64 m.d.im, .int .i64 m.d.den] : Array Value)[k * 3 + 1]? = some (.int .i64 (m.get k).im) ∧ (#[.int .i64 m.a.re, .int .i64 m.a.im, .int .i64 m.a.den, .int .i64 m.b.re, .int .i64 m.b.im, .int .i64 m.b.den, .int .i64 m.c.re, .int .i64 m.c.im, .int .i64 m.c.den, .int .i64 m.d.re, .int .i64 m.d.im, .int .i64 m.d.den] : Array Value)[k * 3 + 2]? = some (.int .i64 (m.get k).den)) := by
    intro k hk
    have : k = 0 ∨ k = 1 ∨ k = 2 ∨ k = 3 := by omega
    rcases this with rfl | rfl | rfl | rfl <;> exact ⟨rfl, rfl, rfl⟩
  go_enter Tryd.func70, Tryd.ntmps70
  go_wp2
  go_loopw [3] (fun i wr => XRel dkF m.get 4 w i wr) (fun i _ => (4 - intOf i).toNat)
  case atStart => exact XRel.mk 0 (by omega) rfl rfl (by (repeat' first | exact Below.refl _ _ | apply bl_alloc | apply bl_drewN | apply bl_drew | refine bl_trans ?_ (by assumption) | refine bl_set ?_ (by first | omega | (simp <;> omega)) _)) (by simp) (BoxAt.new _ _ _ _ _ HS.out)
  case round =>
    obtain ⟨k, hk, rfl, HP, hbw, hs, HX⟩ := hrel
    have HBW := Lib.hid hbw; clear hbw
    by_cases h5 : k < 4
    · obtain ⟨c0, c1, c2⟩ := HX k h5
      have i0 : (0 : Int) ≤ (k : Int) := by omega
      have i1 : (k : Int) < 4 := by omega
      by_cases h0 : (m.get k).re = 0
      · have h0' : ((m.get k).re != 0) = false := by simp [h0]
        by_cases h2 : (m.get k).im = 0
        · have h2' : ((m.get k).im != 0) = false := by simp [h2]
          have HR : Hid (dkF (m.get k) = true) := by show _ = _; unfold dkF; simp [h0, h2]
          clear h0 h2
          go_wp2
          go_roundw
          case rel => exact XRel.mk (k + 1) (by omega) (by go_num) (apre_s HP.out HR.out) HBW.out (by omega) HX
          case measure => simp [intOf]; omega
        · have h2' : ((m.get k).im != 0) = true := by simp [h2]
          have HR : Hid (dkF (m.get k) = false) := by show _ = _; unfold dkF; simp [h2]
          clear h0 h2
          go_wp2
          go_ret
          exact ⟨ret_bool (apre_no (k := k) HR.out 4 (by omega)).symm, HBW.out⟩
      · have h0' : ((m.get k).re != 0) = true := by simp [h0]
        have HR : Hid (dkF (m.get k) = false) := by show _ = _; unfold dkF; simp [h0]
        clear h0
        go_wp2
        go_ret
        exact ⟨ret_bool (apre_no (k := k) HR.out 4 (by omega)).symm, HBW.out⟩
    · obtain rfl : k = 4 := by omega
      go_wp2
      go_ret
      exact ⟨ret_bool HP.out.symm, HBW.out⟩
set_option maxRecDepth 100000 in
set_option maxHeartbeats 40000000 in
theorem smal_any (a : M4) (b : M4) (w : World) :
    Calls Tryd.prog 21 #[.agg #[.int .i64 a.a.re, .int .i64 a.a.im, .int .i64 a.a.den, .int .i64 a.b.re, .int .i64 a.b.im, .int .i64 a.b.den, .int .i64 a.c.re, .int .i64 a.c.im, .int .i64 a.c.den, .int .i64 a.d.re, .int .i64 a.d.im, .int .i64 a.d.den], .agg #[.int .i64 b.a.re, .int .i64 b.a.im, .int .i64 b.a.den, .int .i64 b.b.re, .int .i64 b.b.im, .int .i64 b.b.den, .int .i64 b.c.re, .int .i64 b.c.im, .int .i64 b.c.den, .int .i64 b.d.re, .int .i64 b.d.im, .int .i64 b.d.den]] w (fun e w' => e = .returned (.bool (gMAl a b)) ∧ Below w.heap.size w w') := by
  cases h1 : all4 vld a
  · skip
    have HG : Hid (gMAl a b = false) := by show _ = _; unfold gMAl; rw [h1]; rfl
    have HB : Hid (Below w.heap.size w w) := Below.refl _ _
    go_enter Tryd.func21, Tryd.ntmps21
    go_wp2_with fail
    refine wp_region_held_drew (S := (fun w' => (w'.cell? ⟨w.heap.size, 0, none⟩ = some (.int .i64 a.a.re) ∧ w'.cell? ⟨w.heap.size, 1, none⟩ = some (.int .i64 a.a.im) ∧ w'.cell? ⟨w.heap.size, 2, none⟩ = some (.int .i64 a.a.den) ∧ w'.cell? ⟨w.heap.size, 3, none⟩ = some (.int .i64 a.b.re) ∧ w'.cell? ⟨w.heap.size, 4, none⟩ = some (.int .i64 a.b.im) ∧ w'.cell? ⟨w.heap.size, 5, none⟩ = some (.int .i64 a.b.den) ∧ w'.cell? ⟨w.heap.size, 6, none⟩ = some (.int .i64 a.c.re) ∧ w'.cell? ⟨w.heap.size, 7, none⟩ = some (.int .i64 a.c.im) ∧ w'.cell? ⟨w.heap.size, 8, none⟩ = some (.int .i64 a.c.den) ∧ w'.cell? ⟨w.heap.size, 9, none⟩ = some (.int .i64 a.d.re) ∧ w'.cell? ⟨w.heap.size, 10, none⟩ = some (.int .i64 a.d.im) ∧ w'.cell? ⟨w.heap.size, 11, none⟩ = some (.int .i64 a.d.den)))) (by kernel_rfl) (show _ from (cellsM (show World.rangeAt (World.drew ((w.alloc (.cells #[.int .i64 a.a.re, .int .i64 a.a.im, .int .i64 a.a.den, .int .i64 a.b.re, .int .i64 a.b.im, .int .i64 a.b.den, .int .i64 a.c.re, .int .i64 a.c.im, .int .i64 a.c.den, .int .i64 a.d.re, .int .i64 a.d.im, .int .i64 a.d.den] 41)).alloc (.cells #[.int .i64 b.a.re, .int .i64 b.a.im, .int .i64 b.a.den, .int .i64 b.b.re, .int .i64 b.b.im, .int .i64 b.b.den, .int .i64 b.c.re, .int .i64 b.c.im, .int .i64 b.c.den, .int .i64 b.d.re, .int .i64 b.d.im, .int .i64 b.d.den] 41))) (w.heap.size) 0 [.int .i64 a.a.re, .int .i64 a.a.im, .int .i64 a.a.den, .int .i64 a.b.re, .int .i64 a.b.im, .int .i64 a.b.den, .int .i64 a.c.re, .int .i64 a.c.im, .int .i64 a.c.den, .int .i64 a.d.re, .int .i64 a.d.im, .int .i64 a.d.den] from (World.rangeAt_alloc (rangeAt_new _ _ _) _)))) (fun hHeld => ?_)
    refine wpAnyH_take (i := 0) (v := ?_) rfl (by kernel_rfl) (by kernel_rfl) (by kernel_rfl) (fun _ _ _ h => h) (Or.inl ⟨by rfl, ?_⟩) (by assumption) ?_
    rotate_left
    (focus (intro w hSw; (try dsimp only at hSw); go_simp; (try with_reducible rfl)))
    (try simp only [Act.put, List.getElem_toArray, List.getElem_cons_zero, List.setIfInBounds_toArray, List.set_cons_zero, List.set_cons_succ])
    refine wpAnyH_ready (rs := [1]) (by kernel_rfl) (by simp) ?_
    refine AllReadyH.cons rfl (fun K hK => ?_) AllReadyH.nil
    go_simp
    go_at_call 69
    (with_reducible refine (smatvalid_any a _).mono ?_)
    rintro e w1 ho
    rw [h1] at ho
    obtain ⟨rfl, hb⟩ : e = .returned (.bool false) ∧ Below _ _ _ := (id ho)
    clear ho
    have HB := Lib.hid (show Below w.heap.size w w1 from HB.out.trans ((show Below _ _ _ from ((((Below.refl _ _).alloc (by first | omega | (simp; done) | (simp <;> omega)) _).alloc (by first | omega | (simp; done) | (simp <;> omega)) _).drew)).trans (hb.mono (by first | omega | (simp <;> omega)))))
    have Ha : Hid (w1.rangeAt (w.heap.size) 0 [.int .i64 a.a.re, .int .i64 a.a.im, .int .i64 a.a.den, .int .i64 a.b.re, .int .i64 a.b.im, .int .i64 a.b.den, .int .i64 a.c.re, .int .i64 a.c.im, .int .i64 a.c.den, .int .i64 a.d.re, .int .i64 a.d.im, .int .i64 a.d.den]) := rangeAt_below (show World.rangeAt (World.drew ((w.alloc (.cells #[.int .i64 a.a.re, .int .i64 a.a.im, .int .i64 a.a.den, .int .i64 a.b.re, .int .i64 a.b.im, .int .i64 a.b.den, .int .i64 a.c.re, .int .i64 a.c.im, .int .i64 a.c.den, .int .i64 a.d.re, .int .i64 a.d.im, .int .i64 a.d.den] 41)).alloc (.cells #[.int .i64 b.a.re, .int .i64 b.a.im, .int .i64 b.a.den, .int .i64 b.b.re, .int .i64 b.b.im, .int .i64 b.b.den, .int .i64 b.c.re, .int .i64 b.c.im, .int .i64 b.c.den, .int .i64 b.d.re, .int .i64 b.d.im, .int .i64 b.d.den] 41))) (w.heap.size) 0 [.int .i64 a.a.re, .int .i64 a.a.im, .int .i64 a.a.den, .int .i64 a.b.re, .int .i64 a.b.im, .int .i64 a.b.den, .int .i64 a.c.re, .int .i64 a.c.im, .int .i64 a.c.den, .int .i64 a.d.re, .int .i64 a.d.im, .int .i64 a.d.den] from (World.rangeAt_alloc (rangeAt_new _ _ _) _)) hb (by first | omega | (simp; done) | (simp <;> omega))
    have Hb : Hid (w1.rangeAt (w.heap.size + 1) 0 [.int .i64 b.a.re, .int .i64 b.a.im, .int .i64 b.a.den, .int .i64 b.b.re, .int .i64 b.b.im, .int .i64 b.b.den, .int .i64 b.c.re, .int .i64 b.c.im, .int .i64 b.c.den, .int .i64 b.d.re, .int .i64 b.d.im, .int .i64 b.d.den]) := rangeAt_below (show World.rangeAt (World.drew ((w.alloc (.cells #[.int .i64 a.a.re, .int .i64 a.a.im, .int .i64 a.a.den, .int .i64 a.b.re, .int .i64 a.b.im, .int .i64 a.b.den, .int .i64 a.c.re, .int .i64 a.c.im, .int .i64 a.c.den, .int .i64 a.d.re, .int .i64 a.d.im, .int .i64 a.d.den] 41)).alloc (.cells #[.int .i64 b.a.re, .int .i64 b.a.im, .int .i64 b.a.den, .int .i64 b.b.re, .int .i64 b.b.im, .int .i64 b.b.den, .int .i64 b.c.re, .int .i64 b.c.im, .int .i64 b.c.den, .int .i64 b.d.re, .int .i64 b.d.im, .int .i64 b.d.den] 41))) (w.heap.size + 1) 0 [.int .i64 b.a.re, .int .i64 b.a.im, .int .i64 b.a.den, .int .i64 b.b.re, .int .i64 b.b.im, .int .i64 b.b.den, .int .i64 b.c.re, .int .i64 b.c.im, .int .i64 b.c.den, .int .i64 b.d.re, .int .i64 b.d.im, .int .i64 b.d.den] from (rangeAt_nw (by simp))) hb (by first | omega | (simp; done) | (simp <;> omega))
    have hz1 := hb.size
    (try simp at hz1)
    clear hb
    have nA0 : w.heap.size < w1.heap.size := by omega
    have nB0 : ¬ w.heap.size = w1.heap.size := by omega
    have nC0 : ¬ w1.heap.size = w.heap.size := by omega
    have nA1 : w.heap.size + 1 < w1.heap.size := by omega
    have nB1 : ¬ w.heap.size + 1 = w1.heap.size := by omega
    have nC1 : ¬ w1.heap.size = w.heap.size + 1 := by omega
    refine hK.out _ _ (show _ from (cellsM Ha.out)) (fun hHeld => ?_)
    clear hK K
    (try simp only [Act.put, List.getElem_toArray, List.getElem_cons_succ, List.getElem_cons_zero, List.setIfInBounds_toArray, List.set_cons_zero, List.set_cons_succ])
    refine wpAnyH_take (i := 2) (v := ?_) rfl (by kernel_rfl) (by kernel_rfl) (by kernel_rfl) (fun _ _ _ h => h) (Or.inl ⟨by rfl, ?_⟩) (by assumption) ?_
    rotate_left
    (focus (intro w hSw; (try dsimp only at hSw); go_simp; (try with_reducible rfl)))
    (try simp only [Act.put, List.getElem_toArray, List.getElem_cons_succ, List.getElem_cons_zero, List.setIfInBounds_toArray, List.set_cons_zero, List.set_cons_succ])
    refine wpAnyH_take (i := 3) (v := ?_) rfl (by kernel_rfl) (by kernel_rfl) (by kernel_rfl) (fun _ _ _ h => h) (Or.inl ⟨by rfl, ?_⟩) (by assumption) ?_
    rotate_left
    (focus (intro w hSw; (try dsimp only at hSw); go_simp; (try with_reducible rfl)))
    (try simp only [Act.put, List.getElem_toArray, List.getElem_cons_succ, List.getElem_cons_zero, List.setIfInBounds_toArray, List.set_cons_zero, List.set_cons_succ])
    refine wpAnyH_take (i := 4) rfl (by kernel_rfl) (by kernel_rfl) (by kernel_rfl) (fun _ _ _ h => h) (Or.inr ⟨by rfl, rfl⟩) (by assumption) ?_
    (try simp only [Act.put, List.getElem_toArray, List.getElem_cons_succ, List.getElem_cons_zero, List.setIfInBounds_toArray, List.set_cons_zero, List.set_cons_succ])
    refine wpAnyH_take (i := 5) rfl (by kernel_rfl) (by kernel_rfl) (by kernel_rfl) (fun _ _ _ h => h) (Or.inr ⟨by rfl, rfl⟩) (by assumption) ?_
    (try simp only [Act.put, List.getElem_toArray, List.getElem_cons_succ, List.getElem_cons_zero, List.setIfInBounds_toArray, List.set_cons_zero, List.set_cons_succ])
    refine wpAnyH_take (i := 6) rfl (by kernel_rfl) (by kernel_rfl) (by kernel_rfl) (fun _ _ _ h => h) (Or.inr ⟨by rfl, rfl⟩) (by assumption) ?_
    (try simp only [Act.put, List.getElem_toArray, List.getElem_cons_succ, List.getElem_cons_zero, List.setIfInBounds_toArray, List.set_cons_zero, List.set_cons_succ])
    refine wpAnyH_take (i := 7) (v := ?_) rfl (by kernel_rfl) (by kernel_rfl) (by kernel_rfl) (fun _ _ _ h => h) (Or.inl ⟨by rfl, ?_⟩) (by assumption) ?_
    rotate_left
    (focus (intro w hSw; (try dsimp only at hSw); go_simp; (try with_reducible rfl)))
    (try simp only [Act.put, List.getElem_toArray, List.getElem_cons_succ, List.getElem_cons_zero, List.setIfInBounds_toArray, List.set_cons_zero, List.set_cons_succ])
    refine wpAnyH_take (i := 8) (v := ?_) rfl (by kernel_rfl) (by kernel_rfl) (by kernel_rfl) (fun _ _ _ h => h) (Or.inl ⟨by rfl, ?_⟩) (by assumption) ?_
    rotate_left
    (focus (intro w hSw; (try dsimp only at hSw); go_simp; (try with_reducible rfl)))
    (try simp only [Act.put, List.getElem_toArray, List.getElem_cons_succ, List.getElem_cons_zero, List.setIfInBounds_toArray, List.set_cons_zero, List.set_cons_succ])
    refine wpAnyH_take (i := 9) rfl (by kernel_rfl) (by kernel_rfl) (by kernel_rfl) (fun _ _ _ h => h) (Or.inr ⟨by rfl, rfl⟩) (by assumption) ?_
    (try simp only [Act.put, List.getElem_toArray, List.getElem_cons_succ, List.getElem_cons_zero, List.setIfInBounds_toArray, List.set_cons_zero, List.set_cons_succ])
    refine wpAnyH_take (i := 10) rfl (by kernel_rfl) (by kernel_rfl) (by kernel_rfl) (fun _ _ _ h => h) (Or.inr ⟨by rfl, rfl⟩) (by assumption) ?_
    (try simp only [Act.put, List.getElem_toArray, List.getElem_cons_succ, List.getElem_cons_zero, List.setIfInBounds_toArray, List.set_cons_zero, List.set_cons_succ])
    refine wpAnyH_take (i := 11) rfl (by kernel_rfl) (by kernel_rfl) (by kernel_rfl) (fun _ _ _ h => h) (Or.inr ⟨by rfl, rfl⟩) (by assumption) ?_
    (try simp only [Act.put, List.getElem_toArray, List.getElem_cons_succ, List.getElem_cons_zero, List.setIfInBounds_toArray, List.set_cons_zero, List.set_cons_succ])
    refine wpAnyH_take (i := 12) rfl (by kernel_rfl) (by kernel_rfl) (by kernel_rfl) (fun _ _ _ h => h) (Or.inr ⟨by rfl, rfl⟩) (by assumption) ?_
    (try simp only [Act.put, List.getElem_toArray, List.getElem_cons_succ, List.getElem_cons_zero, List.setIfInBounds_toArray, List.set_cons_zero, List.set_cons_succ])
    refine wpAnyH_take (i := 13) rfl (by kernel_rfl) (by kernel_rfl) (by kernel_rfl) (fun _ _ _ h => h) (Or.inr ⟨by rfl, rfl⟩) (by assumption) ?_
    (try simp only [Act.put, List.getElem_toArray, List.getElem_cons_succ, List.getElem_cons_zero, List.setIfInBounds_toArray, List.set_cons_zero, List.set_cons_succ])
    refine wpAnyH_take (i := 14) (v := ?_) rfl (by kernel_rfl) (by kernel_rfl) (by kernel_rfl) (fun _ _ _ h => h) (Or.inl ⟨by rfl, ?_⟩) (by assumption) ?_
    rotate_left
    (focus (intro w hSw; (try dsimp only at hSw); go_simp; (try with_reducible rfl)))
    (try simp only [Act.put, List.getElem_toArray, List.getElem_cons_succ, List.getElem_cons_zero, List.setIfInBounds_toArray, List.set_cons_zero, List.set_cons_succ])
    refine wpAnyH_done (by kernel_rfl) ?_ _
    clear hHeld
    go_wp2_with fail
    go_ret
    exact ⟨by rw [HG.out]; rfl, (by (repeat' first | (with_reducible exact HB.out) | with_reducible refine setCells_below _ _ _ ?_ (by first | omega | (simp <;> omega)) | with_reducible refine Below.setCell ?_ (by show _ ≤ _; first | omega | (simp <;> omega) | simp) _ | with_reducible refine Below.alloc ?_ (by first | omega | (simp <;> omega)) _ | with_reducible apply Below.drew | with_reducible refine below_drewN ?_ _))⟩
  · skip
    cases h2 : all4 vld b
    · skip
      have HG : Hid (gMAl a b = false) := by show _ = _; unfold gMAl; rw [h1, h2]; rfl
      have HB : Hid (Below w.heap.size w w) := Below.refl _ _
      go_enter Tryd.func21, Tryd.ntmps21
      go_wp2_with fail
      refine wp_region_held_drew (S := (fun w' => (w'.cell? ⟨w.heap.size, 0, none⟩ = some (.int .i64 a.a.re) ∧ w'.cell? ⟨w.heap.size, 1, none⟩ = some (.int .i64 a.a.im) ∧ w'.cell? ⟨w.heap.size, 2, none⟩ = some (.int .i64 a.a.den) ∧ w'.cell? ⟨w.heap.size, 3, none⟩ = some (.int .i64 a.b.re) ∧ w'.cell? ⟨w.heap.size, 4, none⟩ = some (.int .i64 a.b.im) ∧ w'.cell? ⟨w.heap.size, 5, none⟩ = some (.int .i64 a.b.den) ∧ w'.cell? ⟨w.heap.size, 6, none⟩ = some (.int .i64 a.c.re) ∧ w'.cell? ⟨w.heap.size, 7, none⟩ = some (.int .i64 a.c.im) ∧ w'.cell? ⟨w.heap.size, 8, none⟩ = some (.int .i64 a.c.den) ∧ w'.cell? ⟨w.heap.size, 9, none⟩ = some (.int .i64 a.d.re) ∧ w'.cell? ⟨w.heap.size, 10, none⟩ = some (.int .i64 a.d.im) ∧ w'.cell? ⟨w.heap.size, 11, none⟩ = some (.int .i64 a.d.den)) ∧ (w'.cell? ⟨w.heap.size + 1, 0, none⟩ = some (.int .i64 b.a.re) ∧ w'.cell? ⟨w.heap.size + 1, 1, none⟩ = some (.int .i64 b.a.im) ∧ w'.cell? ⟨w.heap.size + 1, 2, none⟩ = some (.int .i64 b.a.den) ∧ w'.cell? ⟨w.heap.size + 1, 3, none⟩ = some (.int .i64 b.b.re) ∧ w'.cell? ⟨w.heap.size + 1, 4, none⟩ = some (.int .i64 b.b.im) ∧ w'.cell? ⟨w.heap.size + 1, 5, none⟩ = some (.int .i64 b.b.den) ∧ w'.cell? ⟨w.heap.size + 1, 6, none⟩ = some (.int .i64 b.c.re) ∧ w'.cell? ⟨w.heap.size + 1, 7, none⟩ = some (.int .i64 b.c.im) ∧ w'.cell? ⟨w.heap.size + 1, 8, none⟩ = some (.int .i64 b.c.den) ∧ w'.cell? ⟨w.heap.size + 1, 9, none⟩ = some (.int .i64 b.d.re) ∧ w'.cell? ⟨w.heap.size + 1, 10, none⟩ = some (.int .i64 b.d.im) ∧ w'.cell? ⟨w.heap.size + 1, 11, none⟩ = some (.int .i64 b.d.den)))) (by kernel_rfl) (show _ from ⟨(cellsM (show World.rangeAt (World.drew ((w.alloc (.cells #[.int .i64 a.a.re, .int .i64 a.a.im, .int .i64 a.a.den, .int .i64 a.b.re, .int .i64 a.b.im, .int .i64 a.b.den, .int .i64 a.c.re, .int .i64 a.c.im, .int .i64 a.c.den, .int .i64 a.d.re, .int .i64 a.d.im, .int .i64 a.d.den] 41)).alloc (.cells #[.int .i64 b.a.re, .int .i64 b.a.im, .int .i64 b.a.den, .int .i64 b.b.re, .int .i64 b.b.im, .int .i64 b.b.den, .int .i64 b.c.re, .int .i64 b.c.im, .int .i64 b.c.den, .int .i64 b.d.re, .int .i64 b.d.im, .int .i64 b.d.den] 41))) (w.heap.size) 0 [.int .i64 a.a.re, .int .i64 a.a.im, .int .i64 a.a.den, .int .i64 a.b.re, .int .i64 a.b.im, .int .i64 a.b.den, .int .i64 a.c.re, .int .i64 a.c.im, .int .i64 a.c.den, .int .i64 a.d.re, .int .i64 a.d.im, .int .i64 a.d.den] from (World.rangeAt_alloc (rangeAt_new _ _ _) _))), (cellsM (show World.rangeAt (World.drew ((w.alloc (.cells #[.int .i64 a.a.re, .int .i64 a.a.im, .int .i64 a.a.den, .int .i64 a.b.re, .int .i64 a.b.im, .int .i64 a.b.den, .int .i64 a.c.re, .int .i64 a.c.im, .int .i64 a.c.den, .int .i64 a.d.re, .int .i64 a.d.im, .int .i64 a.d.den] 41)).alloc (.cells #[.int .i64 b.a.re, .int .i64 b.a.im, .int .i64 b.a.den, .int .i64 b.b.re, .int .i64 b.b.im, .int .i64 b.b.den, .int .i64 b.c.re, .int .i64 b.c.im, .int .i64 b.c.den, .int .i64 b.d.re, .int .i64 b.d.im, .int .i64 b.d.den] 41))) (w.heap.size + 1) 0 [.int .i64 b.a.re, .int .i64 b.a.im, .int .i64 b.a.den, .int .i64 b.b.re, .int .i64 b.b.im, .int .i64 b.b.den, .int .i64 b.c.re, .int .i64 b.c.im, .int .i64 b.c.den, .int .i64 b.d.re, .int .i64 b.d.im, .int .i64 b.d.den] from (rangeAt_nw (by simp))))⟩) (fun hHeld => ?_)
      refine wpAnyH_take (i := 0) (v := ?_) rfl (by kernel_rfl) (by kernel_rfl) (by kernel_rfl) (fun _ _ _ h => h) (Or.inl ⟨by rfl, ?_⟩) (by assumption) ?_
      rotate_left
      (focus (intro w hSw; (try dsimp only at hSw); go_simp; (try with_reducible rfl)))
      (try simp only [Act.put, List.getElem_toArray, List.getElem_cons_zero, List.setIfInBounds_toArray, List.set_cons_zero, List.set_cons_succ])
      refine wpAnyH_ready (rs := [1]) (by kernel_rfl) (by simp) ?_
      refine AllReadyH.cons rfl (fun K hK => ?_) AllReadyH.nil
      go_simp
      go_at_call 69
      (with_reducible refine (smatvalid_any a _).mono ?_)
      rintro e w1 ho
      rw [h1] at ho
      obtain ⟨rfl, hb⟩ : e = .returned (.bool true) ∧ Below _ _ _ := (id ho)
      clear ho
      have HB := Lib.hid (show Below w.heap.size w w1 from HB.out.trans ((show Below _ _ _ from ((((Below.refl _ _).alloc (by first | omega | (simp; done) | (simp <;> omega)) _).alloc (by first | omega | (simp; done) | (simp <;> omega)) _).drew)).trans (hb.mono (by first | omega | (simp <;> omega)))))
      have Ha : Hid (w1.rangeAt (w.heap.size) 0 [.int .i64 a.a.re, .int .i64 a.a.im, .int .i64 a.a.den, .int .i64 a.b.re, .int .i64 a.b.im, .int .i64 a.b.den, .int .i64 a.c.re, .int .i64 a.c.im, .int .i64 a.c.den, .int .i64 a.d.re, .int .i64 a.d.im, .int .i64 a.d.den]) := rangeAt_below (show World.rangeAt (World.drew ((w.alloc (.cells #[.int .i64 a.a.re, .int .i64 a.a.im, .int .i64 a.a.den, .int .i64 a.b.re, .int .i64 a.b.im, .int .i64 a.b.den, .int .i64 a.c.re, .int .i64 a.c.im, .int .i64 a.c.den, .int .i64 a.d.re, .int .i64 a.d.im, .int .i64 a.d.den] 41)).alloc (.cells #[.int .i64 b.a.re, .int .i64 b.a.im, .int .i64 b.a.den, .int .i64 b.b.re, .int .i64 b.b.im, .int .i64 b.b.den, .int .i64 b.c.re, .int .i64 b.c.im, .int .i64 b.c.den, .int .i64 b.d.re, .int .i64 b.d.im, .int .i64 b.d.den] 41))) (w.heap.size) 0 [.int .i64 a.a.re, .int .i64 a.a.im, .int .i64 a.a.den, .int .i64 a.b.re, .int .i64 a.b.im, .int .i64 a.b.den, .int .i64 a.c.re, .int .i64 a.c.im, .int .i64 a.c.den, .int .i64 a.d.re, .int .i64 a.d.im, .int .i64 a.d.den] from (World.rangeAt_alloc (rangeAt_new _ _ _) _)) hb (by first | omega | (simp; done) | (simp <;> omega))
      have Hb : Hid (w1.rangeAt (w.heap.size + 1) 0 [.int .i64 b.a.re, .int .i64 b.a.im, .int .i64 b.a.den, .int .i64 b.b.re, .int .i64 b.b.im, .int .i64 b.b.den, .int .i64 b.c.re, .int .i64 b.c.im, .int .i64 b.c.den, .int .i64 b.d.re, .int .i64 b.d.im, .int .i64 b.d.den]) := rangeAt_below (show World.rangeAt (World.drew ((w.alloc (.cells #[.int .i64 a.a.re, .int .i64 a.a.im, .int .i64 a.a.den, .int .i64 a.b.re, .int .i64 a.b.im, .int .i64 a.b.den, .int .i64 a.c.re, .int .i64 a.c.im, .int .i64 a.c.den, .int .i64 a.d.re, .int .i64 a.d.im, .int .i64 a.d.den] 41)).alloc (.cells #[.int .i64 b.a.re, .int .i64 b.a.im, .int .i64 b.a.den, .int .i64 b.b.re, .int .i64 b.b.im, .int .i64 b.b.den, .int .i64 b.c.re, .int .i64 b.c.im, .int .i64 b.c.den, .int .i64 b.d.re, .int .i64 b.d.im, .int .i64 b.d.den] 41))) (w.heap.size + 1) 0 [.int .i64 b.a.re, .int .i64 b.a.im, .int .i64 b.a.den, .int .i64 b.b.re, .int .i64 b.b.im, .int .i64 b.b.den, .int .i64 b.c.re, .int .i64 b.c.im, .int .i64 b.c.den, .int .i64 b.d.re, .int .i64 b.d.im, .int .i64 b.d.den] from (rangeAt_nw (by simp))) hb (by first | omega | (simp; done) | (simp <;> omega))
      have hz1 := hb.size
      (try simp at hz1)
      clear hb
      have nA0 : w.heap.size < w1.heap.size := by omega
      have nB0 : ¬ w.heap.size = w1.heap.size := by omega
      have nC0 : ¬ w1.heap.size = w.heap.size := by omega
      have nA1 : w.heap.size + 1 < w1.heap.size := by omega
      have nB1 : ¬ w.heap.size + 1 = w1.heap.size := by omega
      have nC1 : ¬ w1.heap.size = w.heap.size + 1 := by omega
      refine hK.out _ _ (show _ from ⟨(cellsM Ha.out), (cellsM Hb.out)⟩) (fun hHeld => ?_)
      clear hK K
      (try simp only [Act.put, List.getElem_toArray, List.getElem_cons_succ, List.getElem_cons_zero, List.setIfInBounds_toArray, List.set_cons_zero, List.set_cons_succ])
      refine wpAnyH_take (i := 2) (v := ?_) rfl (by kernel_rfl) (by kernel_rfl) (by kernel_rfl) (fun _ _ _ h => h) (Or.inl ⟨by rfl, ?_⟩) (by assumption) ?_
      rotate_left
      (focus (intro w hSw; (try dsimp only at hSw); go_simp; (try with_reducible rfl)))
      (try simp only [Act.put, List.getElem_toArray, List.getElem_cons_succ, List.getElem_cons_zero, List.setIfInBounds_toArray, List.set_cons_zero, List.set_cons_succ])
      refine wpAnyH_take (i := 3) (v := ?_) rfl (by kernel_rfl) (by kernel_rfl) (by kernel_rfl) (fun _ _ _ h => h) (Or.inl ⟨by rfl, ?_⟩) (by assumption) ?_
      rotate_left
      (focus (intro w hSw; (try dsimp only at hSw); go_simp; (try with_reducible rfl)))
      (try simp only [Act.put, List.getElem_toArray, List.getElem_cons_succ, List.getElem_cons_zero, List.setIfInBounds_toArray, List.set_cons_zero, List.set_cons_succ])
      refine wpAnyH_take (i := 4) (v := ?_) rfl (by kernel_rfl) (by kernel_rfl) (by kernel_rfl) (fun _ _ _ h => h) (Or.inl ⟨by rfl, ?_⟩) (by assumption) ?_
      rotate_left
      (focus (intro w hSw; (try dsimp only at hSw); go_simp; (try with_reducible rfl)))
      (try simp only [Act.put, List.getElem_toArray, List.getElem_cons_succ, List.getElem_cons_zero, List.setIfInBounds_toArray, List.set_cons_zero, List.set_cons_succ])
      refine wpAnyH_ready (rs := [5]) (by kernel_rfl) (by simp) ?_
      refine AllReadyH.cons rfl (fun K hK => ?_) AllReadyH.nil
      go_simp
      go_at_call 69
      (with_reducible refine (smatvalid_any b _).mono ?_)
      rintro e w2 ho
      rw [h2] at ho
      obtain ⟨rfl, hb⟩ : e = .returned (.bool false) ∧ Below _ _ _ := (id ho)
      clear ho
      have HB := Lib.hid (show Below w.heap.size w w2 from HB.out.trans ((show Below _ _ _ from (Below.refl _ _)).trans (hb.mono (by first | omega | (simp <;> omega)))))
      have Ha : Hid (w2.rangeAt (w.heap.size) 0 [.int .i64 a.a.re, .int .i64 a.a.im, .int .i64 a.a.den, .int .i64 a.b.re, .int .i64 a.b.im, .int .i64 a.b.den, .int .i64 a.c.re, .int .i64 a.c.im, .int .i64 a.c.den, .int .i64 a.d.re, .int .i64 a.d.im, .int .i64 a.d.den]) := rangeAt_below Ha.out hb (by first | omega | (simp; done) | (simp <;> omega))
      have Hb : Hid (w2.rangeAt (w.heap.size + 1) 0 [.int .i64 b.a.re, .int .i64 b.a.im, .int .i64 b.a.den, .int .i64 b.b.re, .int .i64 b.b.im, .int .i64 b.b.den, .int .i64 b.c.re, .int .i64 b.c.im, .int .i64 b.c.den, .int .i64 b.d.re, .int .i64 b.d.im, .int .i64 b.d.den]) := rangeAt_below Hb.out hb (by first | omega | (simp; done) | (simp <;> omega))
      have hz2 := hb.size
      (try simp at hz2)
      clear hb
      have nA0 : w.heap.size < w2.heap.size := by omega
      have nB0 : ¬ w.heap.size = w2.heap.size := by omega
      have nC0 : ¬ w2.heap.size = w.heap.size := by omega
      have nA1 : w.heap.size + 1 < w2.heap.size := by omega
      have nB1 : ¬ w.heap.size + 1 = w2.heap.size := by omega
      have nC1 : ¬ w2.heap.size = w.heap.size + 1 := by omega
      refine hK.out _ _ (show _ from ⟨(cellsM Ha.out), (cellsM Hb.out)⟩) (fun hHeld => ?_)
      clear hK K
      (try simp only [Act.put, List.getElem_toArray, List.getElem_cons_succ, List.getElem_cons_zero, List.setIfInBounds_toArray, List.set_cons_zero, List.set_cons_succ])
      refine wpAnyH_take (i := 6) (v := ?_) rfl (by kernel_rfl) (by kernel_rfl) (by kernel_rfl) (fun _ _ _ h => h) (Or.inl ⟨by rfl, ?_⟩) (by assumption) ?_
      rotate_left
      (focus (intro w hSw; (try dsimp only at hSw); go_simp; (try with_reducible rfl)))
      (try simp only [Act.put, List.getElem_toArray, List.getElem_cons_succ, List.getElem_cons_zero, List.setIfInBounds_toArray, List.set_cons_zero, List.set_cons_succ])
      refine wpAnyH_take (i := 7) (v := ?_) rfl (by kernel_rfl) (by kernel_rfl) (by kernel_rfl) (fun _ _ _ h => h) (Or.inl ⟨by rfl, ?_⟩) (by assumption) ?_
      rotate_left
      (focus (intro w hSw; (try dsimp only at hSw); go_simp; (try with_reducible rfl)))
      (try simp only [Act.put, List.getElem_toArray, List.getElem_cons_succ, List.getElem_cons_zero, List.setIfInBounds_toArray, List.set_cons_zero, List.set_cons_succ])
      refine wpAnyH_take (i := 8) (v := ?_) rfl (by kernel_rfl) (by kernel_rfl) (by kernel_rfl) (fun _ _ _ h => h) (Or.inl ⟨by rfl, ?_⟩) (by assumption) ?_
      rotate_left
      (focus (intro w hSw; (try dsimp only at hSw); go_simp; (try with_reducible rfl)))
      (try simp only [Act.put, List.getElem_toArray, List.getElem_cons_succ, List.getElem_cons_zero, List.setIfInBounds_toArray, List.set_cons_zero, List.set_cons_succ])
      refine wpAnyH_take (i := 9) rfl (by kernel_rfl) (by kernel_rfl) (by kernel_rfl) (fun _ _ _ h => h) (Or.inr ⟨by rfl, rfl⟩) (by assumption) ?_
      (try simp only [Act.put, List.getElem_toArray, List.getElem_cons_succ, List.getElem_cons_zero, List.setIfInBounds_toArray, List.set_cons_zero, List.set_cons_succ])
      refine wpAnyH_take (i := 10) rfl (by kernel_rfl) (by kernel_rfl) (by kernel_rfl) (fun _ _ _ h => h) (Or.inr ⟨by rfl, rfl⟩) (by assumption) ?_
      (try simp only [Act.put, List.getElem_toArray, List.getElem_cons_succ, List.getElem_cons_zero, List.setIfInBounds_toArray, List.set_cons_zero, List.set_cons_succ])
      refine wpAnyH_take (i := 11) rfl (by kernel_rfl) (by kernel_rfl) (by kernel_rfl) (fun _ _ _ h => h) (Or.inr ⟨by rfl, rfl⟩) (by assumption) ?_
      (try simp only [Act.put, List.getElem_toArray, List.getElem_cons_succ, List.getElem_cons_zero, List.setIfInBounds_toArray, List.set_cons_zero, List.set_cons_succ])
      refine wpAnyH_take (i := 12) rfl (by kernel_rfl) (by kernel_rfl) (by kernel_rfl) (fun _ _ _ h => h) (Or.inr ⟨by rfl, rfl⟩) (by assumption) ?_
      (try simp only [Act.put, List.getElem_toArray, List.getElem_cons_succ, List.getElem_cons_zero, List.setIfInBounds_toArray, List.set_cons_zero, List.set_cons_succ])
      refine wpAnyH_take (i := 13) rfl (by kernel_rfl) (by kernel_rfl) (by kernel_rfl) (fun _ _ _ h => h) (Or.inr ⟨by rfl, rfl⟩) (by assumption) ?_
      (try simp only [Act.put, List.getElem_toArray, List.getElem_cons_succ, List.getElem_cons_zero, List.setIfInBounds_toArray, List.set_cons_zero, List.set_cons_succ])
      refine wpAnyH_take (i := 14) (v := ?_) rfl (by kernel_rfl) (by kernel_rfl) (by kernel_rfl) (fun _ _ _ h => h) (Or.inl ⟨by rfl, ?_⟩) (by assumption) ?_
      rotate_left
      (focus (intro w hSw; (try dsimp only at hSw); go_simp; (try with_reducible rfl)))
      (try simp only [Act.put, List.getElem_toArray, List.getElem_cons_succ, List.getElem_cons_zero, List.setIfInBounds_toArray, List.set_cons_zero, List.set_cons_succ])
      refine wpAnyH_done (by kernel_rfl) ?_ _
      clear hHeld
      go_wp2_with fail
      go_ret
      exact ⟨by rw [HG.out]; rfl, (by (repeat' first | (with_reducible exact HB.out) | with_reducible refine setCells_below _ _ _ ?_ (by first | omega | (simp <;> omega)) | with_reducible refine Below.setCell ?_ (by show _ ≤ _; first | omega | (simp <;> omega) | simp) _ | with_reducible refine Below.alloc ?_ (by first | omega | (simp <;> omega)) _ | with_reducible apply Below.drew | with_reducible refine below_drewN ?_ _))⟩
    · skip
      cases h3 : dkM a
      · skip
        cases h4 : dkM b
        · skip
          have HG : Hid (gMAl a b = alB a b) := by show _ = _; unfold gMAl; rw [h1, h2, h3, h4]; simp
          have HB : Hid (Below w.heap.size w w) := Below.refl _ _
          go_enter Tryd.func21, Tryd.ntmps21
          go_wp2_with fail
          refine wp_region_held_drew (S := (fun w' => (w'.cell? ⟨w.heap.size, 0, none⟩ = some (.int .i64 a.a.re) ∧ w'.cell? ⟨w.heap.size, 1, none⟩ = some (.int .i64 a.a.im) ∧ w'.cell? ⟨w.heap.size, 2, none⟩ = some (.int .i64 a.a.den) ∧ w'.cell? ⟨w.heap.size, 3, none⟩ = some (.int .i64 a.b.re) ∧ w'.cell? ⟨w.heap.size, 4, none⟩ = some (.int .i64 a.b.im) ∧ w'.cell? ⟨w.heap.size, 5, none⟩ = some (.int .i64 a.b.den) ∧ w'.cell? ⟨w.heap.size, 6, none⟩ = some (.int .i64 a.c.re) ∧ w'.cell? ⟨w.heap.size, 7, none⟩ = some (.int .i64 a.c.im) ∧ w'.cell? ⟨w.heap.size, 8, none⟩ = some (.int .i64 a.c.den) ∧ w'.cell? ⟨w.heap.size, 9, none⟩ = some (.int .i64 a.d.re) ∧ w'.cell? ⟨w.heap.size, 10, none⟩ = some (.int .i64 a.d.im) ∧ w'.cell? ⟨w.heap.size, 11, none⟩ = some (.int .i64 a.d.den)) ∧ (w'.cell? ⟨w.heap.size + 1, 0, none⟩ = some (.int .i64 b.a.re) ∧ w'.cell? ⟨w.heap.size + 1, 1, none⟩ = some (.int .i64 b.a.im) ∧ w'.cell? ⟨w.heap.size + 1, 2, none⟩ = some (.int .i64 b.a.den) ∧ w'.cell? ⟨w.heap.size + 1, 3, none⟩ = some (.int .i64 b.b.re) ∧ w'.cell? ⟨w.heap.size + 1, 4, none⟩ = some (.int .i64 b.b.im) ∧ w'.cell? ⟨w.heap.size + 1, 5, none⟩ = some (.int .i64 b.b.den) ∧ w'.cell? ⟨w.heap.size + 1, 6, none⟩ = some (.int .i64 b.c.re) ∧ w'.cell? ⟨w.heap.size + 1, 7, none⟩ = some (.int .i64 b.c.im) ∧ w'.cell? ⟨w.heap.size + 1, 8, none⟩ = some (.int .i64 b.c.den) ∧ w'.cell? ⟨w.heap.size + 1, 9, none⟩ = some (.int .i64 b.d.re) ∧ w'.cell? ⟨w.heap.size + 1, 10, none⟩ = some (.int .i64 b.d.im) ∧ w'.cell? ⟨w.heap.size + 1, 11, none⟩ = some (.int .i64 b.d.den)))) (by kernel_rfl) (show _ from ⟨(cellsM (show World.rangeAt (World.drew ((w.alloc (.cells #[.int .i64 a.a.re, .int .i64 a.a.im, .int .i64 a.a.den, .int .i64 a.b.re, .int .i64 a.b.im, .int .i64 a.b.den, .int .i64 a.c.re, .int .i64 a.c.im, .int .i64 a.c.den, .int .i64 a.d.re, .int .i64 a.d.im, .int .i64 a.d.den] 41)).alloc (.cells #[.int .i64 b.a.re, .int .i64 b.a.im, .int .i64 b.a.den, .int .i64 b.b.re, .int .i64 b.b.im, .int .i64 b.b.den, .int .i64 b.c.re, .int .i64 b.c.im, .int .i64 b.c.den, .int .i64 b.d.re, .int .i64 b.d.im, .int .i64 b.d.den] 41))) (w.heap.size) 0 [.int .i64 a.a.re, .int .i64 a.a.im, .int .i64 a.a.den, .int .i64 a.b.re, .int .i64 a.b.im, .int .i64 a.b.den, .int .i64 a.c.re, .int .i64 a.c.im, .int .i64 a.c.den, .int .i64 a.d.re, .int .i64 a.d.im, .int .i64 a.d.den] from (World.rangeAt_alloc (rangeAt_new _ _ _) _))), (cellsM (show World.rangeAt (World.drew ((w.alloc (.cells #[.int .i64 a.a.re, .int .i64 a.a.im, .int .i64 a.a.den, .int .i64 a.b.re, .int .i64 a.b.im, .int .i64 a.b.den, .int .i64 a.c.re, .int .i64 a.c.im, .int .i64 a.c.den, .int .i64 a.d.re, .int .i64 a.d.im, .int .i64 a.d.den] 41)).alloc (.cells #[.int .i64 b.a.re, .int .i64 b.a.im, .int .i64 b.a.den, .int .i64 b.b.re, .int .i64 b.b.im, .int .i64 b.b.den, .int .i64 b.c.re, .int .i64 b.c.im, .int .i64 b.c.den, .int .i64 b.d.re, .int .i64 b.d.im, .int .i64 b.d.den] 41))) (w.heap.size + 1) 0 [.int .i64 b.a.re, .int .i64 b.a.im, .int .i64 b.a.den, .int .i64 b.b.re, .int .i64 b.b.im, .int .i64 b.b.den, .int .i64 b.c.re, .int .i64 b.c.im, .int .i64 b.c.den, .int .i64 b.d.re, .int .i64 b.d.im, .int .i64 b.d.den] from (rangeAt_nw (by simp))))⟩) (fun hHeld => ?_)
          refine wpAnyH_take (i := 0) (v := ?_) rfl (by kernel_rfl) (by kernel_rfl) (by kernel_rfl) (fun _ _ _ h => h) (Or.inl ⟨by rfl, ?_⟩) (by assumption) ?_
          rotate_left
          (focus (intro w hSw; (try dsimp only at hSw); go_simp; (try with_reducible rfl)))
          (try simp only [Act.put, List.getElem_toArray, List.getElem_cons_zero, List.setIfInBounds_toArray, List.set_cons_zero, List.set_cons_succ])
          refine wpAnyH_ready (rs := [1]) (by kernel_rfl) (by simp) ?_
          refine AllReadyH.cons rfl (fun K hK => ?_) AllReadyH.nil
          go_simp
          go_at_call 69
          (with_reducible refine (smatvalid_any a _).mono ?_)
          rintro e w1 ho
          rw [h1] at ho
          obtain ⟨rfl, hb⟩ : e = .returned (.bool true) ∧ Below _ _ _ := (id ho)
          clear ho
          have HB := Lib.hid (show Below w.heap.size w w1 from HB.out.trans ((show Below _ _ _ from ((((Below.refl _ _).alloc (by first | omega | (simp; done) | (simp <;> omega)) _).alloc (by first | omega | (simp; done) | (simp <;> omega)) _).drew)).trans (hb.mono (by first | omega | (simp <;> omega)))))
          have Ha : Hid (w1.rangeAt (w.heap.size) 0 [.int .i64 a.a.re, .int .i64 a.a.im, .int .i64 a.a.den, .int .i64 a.b.re, .int .i64 a.b.im, .int .i64 a.b.den, .int .i64 a.c.re, .int .i64 a.c.im, .int .i64 a.c.den, .int .i64 a.d.re, .int .i64 a.d.im, .int .i64 a.d.den]) := rangeAt_below (show World.rangeAt (World.drew ((w.alloc (.cells #[.int .i64 a.a.re, .int .i64 a.a.im, .int .i64 a.a.den, .int .i64 a.b.re, .int .i64 a.b.im, .int .i64 a.b.den, .int .i64 a.c.re, .int .i64 a.c.im, .int .i64 a.c.den, .int .i64 a.d.re, .int .i64 a.d.im, .int .i64 a.d.den] 41)).alloc (.cells #[.int .i64 b.a.re, .int .i64 b.a.im, .int .i64 b.a.den, .int .i64 b.b.re, .int .i64 b.b.im, .int .i64 b.b.den, .int .i64 b.c.re, .int .i64 b.c.im, .int .i64 b.c.den, .int .i64 b.d.re, .int .i64 b.d.im, .int .i64 b.d.den] 41))) (w.heap.size) 0 [.int .i64 a.a.re, .int .i64 a.a.im, .int .i64 a.a.den, .int .i64 a.b.re, .int .i64 a.b.im, .int .i64 a.b.den, .int .i64 a.c.re, .int .i64 a.c.im, .int .i64 a.c.den, .int .i64 a.d.re, .int .i64 a.d.im, .int .i64 a.d.den] from (World.rangeAt_alloc (rangeAt_new _ _ _) _)) hb (by first | omega | (simp; done) | (simp <;> omega))
          have Hb : Hid (w1.rangeAt (w.heap.size + 1) 0 [.int .i64 b.a.re, .int .i64 b.a.im, .int .i64 b.a.den, .int .i64 b.b.re, .int .i64 b.b.im, .int .i64 b.b.den, .int .i64 b.c.re, .int .i64 b.c.im, .int .i64 b.c.den, .int .i64 b.d.re, .int .i64 b.d.im, .int .i64 b.d.den]) := rangeAt_below (show World.rangeAt (World.drew ((w.alloc (.cells #[.int .i64 a.a.re, .int .i64 a.a.im, .int .i64 a.a.den, .int .i64 a.b.re, .int .i64 a.b.im, .int .i64 a.b.den, .int .i64 a.c.re, .int .i64 a.c.im, .int .i64 a.c.den, .int .i64 a.d.re, .int .i64 a.d.im, .int .i64 a.d.den] 41)).alloc (.cells #[.int .i64 b.a.re, .int .i64 b.a.im, .int .i64 b.a.den, .int .i64 b.b.re, .int .i64 b.b.im, .int .i64 b.b.den, .int .i64 b.c.re, .int .i64 b.c.im, .int .i64 b.c.den, .int .i64 b.d.re, .int .i64 b.d.im, .int .i64 b.d.den] 41))) (w.heap.size + 1) 0 [.int .i64 b.a.re, .int .i64 b.a.im, .int .i64 b.a.den, .int .i64 b.b.re, .int .i64 b.b.im, .int .i64 b.b.den, .int .i64 b.c.re, .int .i64 b.c.im, .int .i64 b.c.den, .int .i64 b.d.re, .int .i64 b.d.im, .int .i64 b.d.den] from (rangeAt_nw (by simp))) hb (by first | omega | (simp; done) | (simp <;> omega))
          have hz1 := hb.size
          (try simp at hz1)
          clear hb
          have nA0 : w.heap.size < w1.heap.size := by omega
          have nB0 : ¬ w.heap.size = w1.heap.size := by omega
          have nC0 : ¬ w1.heap.size = w.heap.size := by omega
          have nA1 : w.heap.size + 1 < w1.heap.size := by omega
          have nB1 : ¬ w.heap.size + 1 = w1.heap.size := by omega
          have nC1 : ¬ w1.heap.size = w.heap.size + 1 := by omega
          refine hK.out _ _ (show _ from ⟨(cellsM Ha.out), (cellsM Hb.out)⟩) (fun hHeld => ?_)
          clear hK K
          (try simp only [Act.put, List.getElem_toArray, List.getElem_cons_succ, List.getElem_cons_zero, List.setIfInBounds_toArray, List.set_cons_zero, List.set_cons_succ])
          refine wpAnyH_take (i := 2) (v := ?_) rfl (by kernel_rfl) (by kernel_rfl) (by kernel_rfl) (fun _ _ _ h => h) (Or.inl ⟨by rfl, ?_⟩) (by assumption) ?_
          rotate_left
          (focus (intro w hSw; (try dsimp only at hSw); go_simp; (try with_reducible rfl)))
          (try simp only [Act.put, List.getElem_toArray, List.getElem_cons_succ, List.getElem_cons_zero, List.setIfInBounds_toArray, List.set_cons_zero, List.set_cons_succ])
          refine wpAnyH_take (i := 3) (v := ?_) rfl (by kernel_rfl) (by kernel_rfl) (by kernel_rfl) (fun _ _ _ h => h) (Or.inl ⟨by rfl, ?_⟩) (by assumption) ?_
          rotate_left
          (focus (intro w hSw; (try dsimp only at hSw); go_simp; (try with_reducible rfl)))
          (try simp only [Act.put, List.getElem_toArray, List.getElem_cons_succ, List.getElem_cons_zero, List.setIfInBounds_toArray, List.set_cons_zero, List.set_cons_succ])
          refine wpAnyH_take (i := 4) (v := ?_) rfl (by kernel_rfl) (by kernel_rfl) (by kernel_rfl) (fun _ _ _ h => h) (Or.inl ⟨by rfl, ?_⟩) (by assumption) ?_
          rotate_left
          (focus (intro w hSw; (try dsimp only at hSw); go_simp; (try with_reducible rfl)))
          (try simp only [Act.put, List.getElem_toArray, List.getElem_cons_succ, List.getElem_cons_zero, List.setIfInBounds_toArray, List.set_cons_zero, List.set_cons_succ])
          refine wpAnyH_ready (rs := [5]) (by kernel_rfl) (by simp) ?_
          refine AllReadyH.cons rfl (fun K hK => ?_) AllReadyH.nil
          go_simp
          go_at_call 69
          (with_reducible refine (smatvalid_any b _).mono ?_)
          rintro e w2 ho
          rw [h2] at ho
          obtain ⟨rfl, hb⟩ : e = .returned (.bool true) ∧ Below _ _ _ := (id ho)
          clear ho
          have HB := Lib.hid (show Below w.heap.size w w2 from HB.out.trans ((show Below _ _ _ from (Below.refl _ _)).trans (hb.mono (by first | omega | (simp <;> omega)))))
          have Ha : Hid (w2.rangeAt (w.heap.size) 0 [.int .i64 a.a.re, .int .i64 a.a.im, .int .i64 a.a.den, .int .i64 a.b.re, .int .i64 a.b.im, .int .i64 a.b.den, .int .i64 a.c.re, .int .i64 a.c.im, .int .i64 a.c.den, .int .i64 a.d.re, .int .i64 a.d.im, .int .i64 a.d.den]) := rangeAt_below Ha.out hb (by first | omega | (simp; done) | (simp <;> omega))
          have Hb : Hid (w2.rangeAt (w.heap.size + 1) 0 [.int .i64 b.a.re, .int .i64 b.a.im, .int .i64 b.a.den, .int .i64 b.b.re, .int .i64 b.b.im, .int .i64 b.b.den, .int .i64 b.c.re, .int .i64 b.c.im, .int .i64 b.c.den, .int .i64 b.d.re, .int .i64 b.d.im, .int .i64 b.d.den]) := rangeAt_below Hb.out hb (by first | omega | (simp; done) | (simp <;> omega))
          have hz2 := hb.size
          (try simp at hz2)
          clear hb
          have nA0 : w.heap.size < w2.heap.size := by omega
          have nB0 : ¬ w.heap.size = w2.heap.size := by omega
          have nC0 : ¬ w2.heap.size = w.heap.size := by omega
          have nA1 : w.heap.size + 1 < w2.heap.size := by omega
          have nB1 : ¬ w.heap.size + 1 = w2.heap.size := by omega
          have nC1 : ¬ w2.heap.size = w.heap.size + 1 := by omega
          refine hK.out _ _ (show _ from ⟨(cellsM Ha.out), (cellsM Hb.out)⟩) (fun hHeld => ?_)
          clear hK K
          (try simp only [Act.put, List.getElem_toArray, List.getElem_cons_succ, List.getElem_cons_zero, List.setIfInBounds_toArray, List.set_cons_zero, List.set_cons_succ])
          refine wpAnyH_take (i := 6) (v := ?_) rfl (by kernel_rfl) (by kernel_rfl) (by kernel_rfl) (fun _ _ _ h => h) (Or.inl ⟨by rfl, ?_⟩) (by assumption) ?_
          rotate_left
          (focus (intro w hSw; (try dsimp only at hSw); go_simp; (try with_reducible rfl)))
          (try simp only [Act.put, List.getElem_toArray, List.getElem_cons_succ, List.getElem_cons_zero, List.setIfInBounds_toArray, List.set_cons_zero, List.set_cons_succ])
          refine wpAnyH_take (i := 7) (v := ?_) rfl (by kernel_rfl) (by kernel_rfl) (by kernel_rfl) (fun _ _ _ h => h) (Or.inl ⟨by rfl, ?_⟩) (by assumption) ?_
          rotate_left
          (focus (intro w hSw; (try dsimp only at hSw); go_simp; (try with_reducible rfl)))
          (try simp only [Act.put, List.getElem_toArray, List.getElem_cons_succ, List.getElem_cons_zero, List.setIfInBounds_toArray, List.set_cons_zero, List.set_cons_succ])
          refine wpAnyH_take (i := 8) (v := ?_) rfl (by kernel_rfl) (by kernel_rfl) (by kernel_rfl) (fun _ _ _ h => h) (Or.inl ⟨by rfl, ?_⟩) (by assumption) ?_
          rotate_left
          (focus (intro w hSw; (try dsimp only at hSw); go_simp; (try with_reducible rfl)))
          (try simp only [Act.put, List.getElem_toArray, List.getElem_cons_succ, List.getElem_cons_zero, List.setIfInBounds_toArray, List.set_cons_zero, List.set_cons_succ])
          refine wpAnyH_take (i := 9) (v := ?_) rfl (by kernel_rfl) (by kernel_rfl) (by kernel_rfl) (fun _ _ _ h => h) (Or.inl ⟨by rfl, ?_⟩) (by assumption) ?_
          rotate_left
          (focus (intro w hSw; (try dsimp only at hSw); go_simp; (try with_reducible rfl)))
          (try simp only [Act.put, List.getElem_toArray, List.getElem_cons_succ, List.getElem_cons_zero, List.setIfInBounds_toArray, List.set_cons_zero, List.set_cons_succ])
          refine wpAnyH_take (i := 11) (v := ?_) rfl (by kernel_rfl) (by kernel_rfl) (by kernel_rfl) (fun _ _ _ h => h) (Or.inl ⟨by rfl, ?_⟩) (by assumption) ?_
          rotate_left
          (focus (intro w hSw; (try dsimp only at hSw); go_simp; (try with_reducible rfl)))
          (try simp only [Act.put, List.getElem_toArray, List.getElem_cons_succ, List.getElem_cons_zero, List.setIfInBounds_toArray, List.set_cons_zero, List.set_cons_succ])
          refine wpAnyH_ready (rs := [10]) (by kernel_rfl) (by simp) ?_
          refine AllReadyH.cons rfl (fun K hK => ?_) AllReadyH.nil
          go_simp
          go_at_call 70
          (with_reducible refine (sdark_any a _).mono ?_)
          rintro e w3 ho
          rw [h3] at ho
          obtain ⟨rfl, hb⟩ : e = .returned (.bool false) ∧ Below _ _ _ := (id ho)
          clear ho
          have HB := Lib.hid (show Below w.heap.size w w3 from HB.out.trans ((show Below _ _ _ from (Below.refl _ _)).trans (hb.mono (by first | omega | (simp <;> omega)))))
          have Ha : Hid (w3.rangeAt (w.heap.size) 0 [.int .i64 a.a.re, .int .i64 a.a.im, .int .i64 a.a.den, .int .i64 a.b.re, .int .i64 a.b.im, .int .i64 a.b.den, .int .i64 a.c.re, .int .i64 a.c.im, .int .i64 a.c.den, .int .i64 a.d.re, .int .i64 a.d.im, .int .i64 a.d.den]) := rangeAt_below Ha.out hb (by first | omega | (simp; done) | (simp <;> omega))
          have Hb : Hid (w3.rangeAt (w.heap.size + 1) 0 [.int .i64 b.a.re, .int .i64 b.a.im, .int .i64 b.a.den, .int .i64 b.b.re, .int .i64 b.b.im, .int .i64 b.b.den, .int .i64 b.c.re, .int .i64 b.c.im, .int .i64 b.c.den, .int .i64 b.d.re, .int .i64 b.d.im, .int .i64 b.d.den]) := rangeAt_below Hb.out hb (by first | omega | (simp; done) | (simp <;> omega))
          have hz3 := hb.size
          (try simp at hz3)
          clear hb
          have nA0 : w.heap.size < w3.heap.size := by omega
          have nB0 : ¬ w.heap.size = w3.heap.size := by omega
          have nC0 : ¬ w3.heap.size = w.heap.size := by omega
          have nA1 : w.heap.size + 1 < w3.heap.size := by omega
          have nB1 : ¬ w.heap.size + 1 = w3.heap.size := by omega
          have nC1 : ¬ w3.heap.size = w.heap.size + 1 := by omega
          refine hK.out _ _ (show _ from ⟨(cellsM Ha.out), (cellsM Hb.out)⟩) (fun hHeld => ?_)
          clear hK K
          (try simp only [Act.put, List.getElem_toArray, List.getElem_cons_succ, List.getElem_cons_zero, List.setIfInBounds_toArray, List.set_cons_zero, List.set_cons_succ])
          refine wpAnyH_ready (rs := [12]) (by kernel_rfl) (by simp) ?_
          refine AllReadyH.cons rfl (fun K hK => ?_) AllReadyH.nil
          go_simp
          go_at_call 70
          (with_reducible refine (sdark_any b _).mono ?_)
          rintro e w4 ho
          rw [h4] at ho
          obtain ⟨rfl, hb⟩ : e = .returned (.bool false) ∧ Below _ _ _ := (id ho)
          clear ho
          have HB := Lib.hid (show Below w.heap.size w w4 from HB.out.trans ((show Below _ _ _ from (Below.refl _ _)).trans (hb.mono (by first | omega | (simp <;> omega)))))
          have Ha : Hid (w4.rangeAt (w.heap.size) 0 [.int .i64 a.a.re, .int .i64 a.a.im, .int .i64 a.a.den, .int .i64 a.b.re, .int .i64 a.b.im, .int .i64 a.b.den, .int .i64 a.c.re, .int .i64 a.c.im, .int .i64 a.c.den, .int .i64 a.d.re, .int .i64 a.d.im, .int .i64 a.d.den]) := rangeAt_below Ha.out hb (by first | omega | (simp; done) | (simp <;> omega))
          have Hb : Hid (w4.rangeAt (w.heap.size + 1) 0 [.int .i64 b.a.re, .int .i64 b.a.im, .int .i64 b.a.den, .int .i64 b.b.re, .int .i64 b.b.im, .int .i64 b.b.den, .int .i64 b.c.re, .int .i64 b.c.im, .int .i64 b.c.den, .int .i64 b.d.re, .int .i64 b.d.im, .int .i64 b.d.den]) := rangeAt_below Hb.out hb (by first | omega | (simp; done) | (simp <;> omega))
          have hz4 := hb.size
          (try simp at hz4)
          clear hb
          have nA0 : w.heap.size < w4.heap.size := by omega
          have nB0 : ¬ w.heap.size = w4.heap.size := by omega
          have nC0 : ¬ w4.heap.size = w.heap.size := by omega
          have nA1 : w.heap.size + 1 < w4.heap.size := by omega
          have nB1 : ¬ w.heap.size + 1 = w4.heap.size := by omega
          have nC1 : ¬ w4.heap.size = w.heap.size + 1 := by omega
          refine hK.out _ _ (show _ from ⟨(cellsM Ha.out), (cellsM Hb.out)⟩) (fun hHeld => ?_)
          clear hK K
          (try simp only [Act.put, List.getElem_toArray, List.getElem_cons_succ, List.getElem_cons_zero, List.setIfInBounds_toArray, List.set_cons_zero, List.set_cons_succ])
          refine wpAnyH_take (i := 13) (v := ?_) rfl (by kernel_rfl) (by kernel_rfl) (by kernel_rfl) (fun _ _ _ h => h) (Or.inl ⟨by rfl, ?_⟩) (by assumption) ?_
          rotate_left
          (focus (intro w hSw; (try dsimp only at hSw); go_simp; (try with_reducible rfl)))
          (try simp only [Act.put, List.getElem_toArray, List.getElem_cons_succ, List.getElem_cons_zero, List.setIfInBounds_toArray, List.set_cons_zero, List.set_cons_succ])
          refine wpAnyH_take (i := 14) (v := ?_) rfl (by kernel_rfl) (by kernel_rfl) (by kernel_rfl) (fun _ _ _ h => h) (Or.inl ⟨by rfl, ?_⟩) (by assumption) ?_
          rotate_left
          (focus (intro w hSw; (try dsimp only at hSw); go_simp; (try with_reducible rfl)))
          (try simp only [Act.put, List.getElem_toArray, List.getElem_cons_succ, List.getElem_cons_zero, List.setIfInBounds_toArray, List.set_cons_zero, List.set_cons_succ])
          refine wpAnyH_done (by kernel_rfl) ?_ _
          clear hHeld
          have HT0 : Hid (ARel w (w.heap.size) (w.heap.size + 1) a b 0 0 w4) := ⟨by omega, by omega, HB.out, nA0, nA1, box_of4 Ha.out, box_of4 Hb.out, fun p q hq hp => by omega⟩
          clear Ha Hb HB
          go_wp2
          have HG0 := Lib.hid HG.out
          clear HG
          go_loopw [5] (fun v wr => AO w (w.heap.size) (w.heap.size + 1) a b v wr) (fun v _ => (4 - intOf v).toNat)
          case atStart => exact ⟨0, rfl, HT0.out⟩
          case round =>
            obtain ⟨i, rfl, hT⟩ := hrel
            clear HT0
            by_cases h4 : i < 4
            · have j0 : (0 : Int) ≤ (i : Int) := by omega
              have j1 : (i : Int) < 4 := by omega
              have HT := Lib.hid hT
              clear hT
              go_wp2
              go_loopw [6] (fun v wr => AI w (w.heap.size) (w.heap.size + 1) a b i v wr) (fun v _ => ((i : Int) - intOf v).toNat)
              case atStart => exact ⟨0, rfl, HT.out⟩
              case round =>
                obtain ⟨k, rfl, hT⟩ := hrel
                clear HT
                by_cases hk : k < i
                · have i0 : (0 : Int) ≤ (k : Int) := by omega
                  have i1 : (k : Int) < (i : Int) := by omega
                  have i2 : (k : Int) < 4 := by omega
                  have HT := Lib.hid hT
                  clear hT
                  have hsA := HT.out.hA
                  have hsB := HT.out.hB
                  have b0 : wr.drew.cell? ⟨w.heap.size, i * 3, none⟩ = some (.int .i64 (a.get i).re) := (HT.out.one i (by omega)).1
                  have p0 : ∀ z, (wr.alloc z).drew.cell? ⟨w.heap.size, i * 3, none⟩ = some (.int .i64 (a.get i).re) := fun z => (World.cell?_alloc_old _ _ _ (show w.heap.size ≠ wr.heap.size by omega)).trans b0
                  have b1 : wr.drew.cell? ⟨w.heap.size, i * 3 + 1, none⟩ = some (.int .i64 (a.get i).im) := (HT.out.one i (by omega)).2.1
                  have p1 : ∀ z, (wr.alloc z).drew.cell? ⟨w.heap.size, i * 3 + 1, none⟩ = some (.int .i64 (a.get i).im) := fun z => (World.cell?_alloc_old _ _ _ (show w.heap.size ≠ wr.heap.size by omega)).trans b1
                  have b2 : wr.drew.cell? ⟨w.heap.size, i * 3 + 2, none⟩ = some (.int .i64 (a.get i).den) := (HT.out.one i (by omega)).2.2
                  have p2 : ∀ z, (wr.alloc z).drew.cell? ⟨w.heap.size, i * 3 + 2, none⟩ = some (.int .i64 (a.get i).den) := fun z => (World.cell?_alloc_old _ _ _ (show w.heap.size ≠ wr.heap.size by omega)).trans b2
                  have b3 : wr.drew.cell? ⟨w.heap.size + 1, k * 3, none⟩ = some (.int .i64 (b.get k).re) := (HT.out.two k (by omega)).1
                  have p3 : ∀ z, (wr.alloc z).drew.cell? ⟨w.heap.size + 1, k * 3, none⟩ = some (.int .i64 (b.get k).re) := fun z => (World.cell?_alloc_old _ _ _ (show w.heap.size + 1 ≠ wr.heap.size by omega)).trans b3
                  have b4 : wr.drew.cell? ⟨w.heap.size + 1, k * 3 + 1, none⟩ = some (.int .i64 (b.get k).im) := (HT.out.two k (by omega)).2.1
                  have p4 : ∀ z, (wr.alloc z).drew.cell? ⟨w.heap.size + 1, k * 3 + 1, none⟩ = some (.int .i64 (b.get k).im) := fun z => (World.cell?_alloc_old _ _ _ (show w.heap.size + 1 ≠ wr.heap.size by omega)).trans b4
                  have b5 : wr.drew.cell? ⟨w.heap.size + 1, k * 3 + 2, none⟩ = some (.int .i64 (b.get k).den) := (HT.out.two k (by omega)).2.2
                  have p5 : ∀ z, (wr.alloc z).drew.cell? ⟨w.heap.size + 1, k * 3 + 2, none⟩ = some (.int .i64 (b.get k).den) := fun z => (World.cell?_alloc_old _ _ _ (show w.heap.size + 1 ≠ wr.heap.size by omega)).trans b5
                  go_wp2
                  go_region_held3 (fun w' => w'.cell? ⟨w.heap.size, i * 3, none⟩ = some (.int .i64 (a.get i).re) ∧ w'.cell? ⟨w.heap.size, i * 3 + 1, none⟩ = some (.int .i64 (a.get i).im) ∧ w'.cell? ⟨w.heap.size, i * 3 + 2, none⟩ = some (.int .i64 (a.get i).den) ∧ w'.cell? ⟨w.heap.size + 1, k * 3, none⟩ = some (.int .i64 (b.get k).re) ∧ w'.cell? ⟨w.heap.size + 1, k * 3 + 1, none⟩ = some (.int .i64 (b.get k).im) ∧ w'.cell? ⟨w.heap.size + 1, k * 3 + 2, none⟩ = some (.int .i64 (b.get k).den)) (((try dsimp only); (first | (with_reducible exact ⟨b0, b1, b2, b3, b4, b5⟩) | (with_reducible exact ⟨p0 _, p1 _, p2 _, p3 _, p4 _, p5 _⟩) | (with_reducible exact ⟨q0, q1, q2, q3, q4, q5⟩) | (with_reducible exact ⟨r0 _, r1 _, r2 _, r3 _, r4 _, r5 _⟩) | (with_reducible exact ⟨s0 _ _ _, s1 _ _ _, s2 _ _ _, s3 _ _ _, s4 _ _ _, s5 _ _ _⟩)))) (first | (go_at_call 71; (with_reducible refine (sptimes_fr (a.get i) (b.get k) wr.drew).mono ?_); rintro e w5 ho; obtain ⟨rfl, hb⟩ := ho.fn; have HT := Lib.hid (HT.out.drew.next hb); have hzw5 : wr.heap.size ≤ w5.heap.size := (by have := hb.size; simpa using this); have q0 : w5.cell? ⟨w.heap.size, i * 3, none⟩ = some (.int .i64 (a.get i).re) := (hb.cell (p := ⟨w.heap.size, i * 3, none⟩) (by show w.heap.size < _; first | omega | (simp <;> omega))).trans (b0); have r0 := fun z => (World.cell?_alloc_old _ z _ (show w.heap.size ≠ w5.heap.size by omega)).trans q0; have q1 : w5.cell? ⟨w.heap.size, i * 3 + 1, none⟩ = some (.int .i64 (a.get i).im) := (hb.cell (p := ⟨w.heap.size, i * 3 + 1, none⟩) (by show w.heap.size < _; first | omega | (simp <;> omega))).trans (b1); have r1 := fun z => (World.cell?_alloc_old _ z _ (show w.heap.size ≠ w5.heap.size by omega)).trans q1; have q2 : w5.cell? ⟨w.heap.size, i * 3 + 2, none⟩ = some (.int .i64 (a.get i).den) := (hb.cell (p := ⟨w.heap.size, i * 3 + 2, none⟩) (by show w.heap.size < _; first | omega | (simp <;> omega))).trans (b2); have r2 := fun z => (World.cell?_alloc_old _ z _ (show w.heap.size ≠ w5.heap.size by omega)).trans q2; have q3 : w5.cell? ⟨w.heap.size + 1, k * 3, none⟩ = some (.int .i64 (b.get k).re) := (hb.cell (p := ⟨w.heap.size + 1, k * 3, none⟩) (by show w.heap.size + 1 < _; first | omega | (simp <;> omega))).trans (b3); have r3 := fun z => (World.cell?_alloc_old _ z _ (show w.heap.size + 1 ≠ w5.heap.size by omega)).trans q3; have q4 : w5.cell? ⟨w.heap.size + 1, k * 3 + 1, none⟩ = some (.int .i64 (b.get k).im) := (hb.cell (p := ⟨w.heap.size + 1, k * 3 + 1, none⟩) (by show w.heap.size + 1 < _; first | omega | (simp <;> omega))).trans (b4); have r4 := fun z => (World.cell?_alloc_old _ z _ (show w.heap.size + 1 ≠ w5.heap.size by omega)).trans q4; have q5 : w5.cell? ⟨w.heap.size + 1, k * 3 + 2, none⟩ = some (.int .i64 (b.get k).den) := (hb.cell (p := ⟨w.heap.size + 1, k * 3 + 2, none⟩) (by show w.heap.size + 1 < _; first | omega | (simp <;> omega))).trans (b5); have r5 := fun z => (World.cell?_alloc_old _ z _ (show w.heap.size + 1 ≠ w5.heap.size by omega)).trans q5; clear ho hb) | (go_at_call 71; (with_reducible refine (sptimes_fr (a.get i) (b.get k) (World.drew (wr.alloc _))).mono ?_); rintro e w5 ho; obtain ⟨rfl, hb⟩ := ho.fn; have HT := Lib.hid ((HT.out.alloc _).drew.next hb); have hzw5 : wr.heap.size + 1 ≤ w5.heap.size := (by have := hb.size; simpa using this); have q0 : w5.cell? ⟨w.heap.size, i * 3, none⟩ = some (.int .i64 (a.get i).re) := (hb.cell (p := ⟨w.heap.size, i * 3, none⟩) (by show w.heap.size < _; first | omega | (simp <;> omega))).trans (p0 _); have s0 := fun u v x => (far3 (i := 0) (j := 1) (k := 2) (u := u) (v := v) (x := x) (show wr.heap.size ≠ w.heap.size by omega)).trans q0; have q1 : w5.cell? ⟨w.heap.size, i * 3 + 1, none⟩ = some (.int .i64 (a.get i).im) := (hb.cell (p := ⟨w.heap.size, i * 3 + 1, none⟩) (by show w.heap.size < _; first | omega | (simp <;> omega))).trans (p1 _); have s1 := fun u v x => (far3 (i := 0) (j := 1) (k := 2) (u := u) (v := v) (x := x) (show wr.heap.size ≠ w.heap.size by omega)).trans q1; have q2 : w5.cell? ⟨w.heap.size, i * 3 + 2, none⟩ = some (.int .i64 (a.get i).den) := (hb.cell (p := ⟨w.heap.size, i * 3 + 2, none⟩) (by show w.heap.size < _; first | omega | (simp <;> omega))).trans (p2 _); have s2 := fun u v x => (far3 (i := 0) (j := 1) (k := 2) (u := u) (v := v) (x := x) (show wr.heap.size ≠ w.heap.size by omega)).trans q2; have q3 : w5.cell? ⟨w.heap.size + 1, k * 3, none⟩ = some (.int .i64 (b.get k).re) := (hb.cell (p := ⟨w.heap.size + 1, k * 3, none⟩) (by show w.heap.size + 1 < _; first | omega | (simp <;> omega))).trans (p3 _); have s3 := fun u v x => (far3 (i := 0) (j := 1) (k := 2) (u := u) (v := v) (x := x) (show wr.heap.size ≠ w.heap.size + 1 by omega)).trans q3; have q4 : w5.cell? ⟨w.heap.size + 1, k * 3 + 1, none⟩ = some (.int .i64 (b.get k).im) := (hb.cell (p := ⟨w.heap.size + 1, k * 3 + 1, none⟩) (by show w.heap.size + 1 < _; first | omega | (simp <;> omega))).trans (p4 _); have s4 := fun u v x => (far3 (i := 0) (j := 1) (k := 2) (u := u) (v := v) (x := x) (show wr.heap.size ≠ w.heap.size + 1 by omega)).trans q4; have q5 : w5.cell? ⟨w.heap.size + 1, k * 3 + 2, none⟩ = some (.int .i64 (b.get k).den) := (hb.cell (p := ⟨w.heap.size + 1, k * 3 + 2, none⟩) (by show w.heap.size + 1 < _; first | omega | (simp <;> omega))).trans (p5 _); have s5 := fun u v x => (far3 (i := 0) (j := 1) (k := 2) (u := u) (v := v) (x := x) (show wr.heap.size ≠ w.heap.size + 1 by omega)).trans q5; have hxB := fun q => hb.cell (p := ⟨wr.heap.size, q, none⟩) (by show wr.heap.size < _; simp); have hxF := fun q => hb.frozen (p := ⟨wr.heap.size, q, none⟩) (by show wr.heap.size < _; simp); have HRX := Lib.hid (Room.below (show Room (World.drew (wr.alloc (.cells #[.int .i64 0, .int .i64 0, .int .i64 0] 23))) wr.heap.size 1 from Room.new' rfl rfl) hb (by simp)); clear ho hb))
                  all_goals (clear b0 b1 b2 b3 b4 b5 p0 p1 p2 p3 p4 p5 q0 q1 q2 q3 q4 q5; first | clear r0 r1 r2 r3 r4 r5 | clear s0 s1 s2 s3 s4 s5)
                  · have hsL := HT.out.below.size
                    have hsA2 := HT.out.hA
                    have hsB2 := HT.out.hB
                    obtain ⟨V, hW⟩ : ∃ W, W = w5.alloc (.cells #[.int .i64 (fTimes (a.get i) (b.get k)).1.re, .int .i64 (fTimes (a.get i) (b.get k)).1.im, .int .i64 (fTimes (a.get i) (b.get k)).1.den] 23) := ⟨_, rfl⟩
                    have HT : Hid (ARel w (w.heap.size) (w.heap.size + 1) a b i k V) := by rw [hW]; exact HT.out.alloc _
                    have HXx : Hid (BoxAt V w5.heap.size (fun _ => (fTimes (a.get i) (b.get k)).1) 1) := by rw [hW]; exact BoxAt.new _ _ _ _ _ (src1 (fTimes (a.get i) (b.get k)).1)
                    have hzHXx : w5.heap.size < V.heap.size := by rw [hW]; simp
                    rw [← hW]
                    clear hW hsA hsB hsA2 hsB2 hsL
                    have hsA := HT.out.hA
                    have hsB := HT.out.hB
                    have b0 : V.drew.cell? ⟨w.heap.size, k * 3, none⟩ = some (.int .i64 (a.get k).re) := (HT.out.one k (by omega)).1
                    have p0 : ∀ z, (V.alloc z).drew.cell? ⟨w.heap.size, k * 3, none⟩ = some (.int .i64 (a.get k).re) := fun z => (World.cell?_alloc_old _ _ _ (show w.heap.size ≠ V.heap.size by omega)).trans b0
                    have b1 : V.drew.cell? ⟨w.heap.size, k * 3 + 1, none⟩ = some (.int .i64 (a.get k).im) := (HT.out.one k (by omega)).2.1
                    have p1 : ∀ z, (V.alloc z).drew.cell? ⟨w.heap.size, k * 3 + 1, none⟩ = some (.int .i64 (a.get k).im) := fun z => (World.cell?_alloc_old _ _ _ (show w.heap.size ≠ V.heap.size by omega)).trans b1
                    have b2 : V.drew.cell? ⟨w.heap.size, k * 3 + 2, none⟩ = some (.int .i64 (a.get k).den) := (HT.out.one k (by omega)).2.2
                    have p2 : ∀ z, (V.alloc z).drew.cell? ⟨w.heap.size, k * 3 + 2, none⟩ = some (.int .i64 (a.get k).den) := fun z => (World.cell?_alloc_old _ _ _ (show w.heap.size ≠ V.heap.size by omega)).trans b2
                    have b3 : V.drew.cell? ⟨w.heap.size + 1, i * 3, none⟩ = some (.int .i64 (b.get i).re) := (HT.out.two i (by omega)).1
                    have p3 : ∀ z, (V.alloc z).drew.cell? ⟨w.heap.size + 1, i * 3, none⟩ = some (.int .i64 (b.get i).re) := fun z => (World.cell?_alloc_old _ _ _ (show w.heap.size + 1 ≠ V.heap.size by omega)).trans b3
                    have b4 : V.drew.cell? ⟨w.heap.size + 1, i * 3 + 1, none⟩ = some (.int .i64 (b.get i).im) := (HT.out.two i (by omega)).2.1
                    have p4 : ∀ z, (V.alloc z).drew.cell? ⟨w.heap.size + 1, i * 3 + 1, none⟩ = some (.int .i64 (b.get i).im) := fun z => (World.cell?_alloc_old _ _ _ (show w.heap.size + 1 ≠ V.heap.size by omega)).trans b4
                    have b5 : V.drew.cell? ⟨w.heap.size + 1, i * 3 + 2, none⟩ = some (.int .i64 (b.get i).den) := (HT.out.two i (by omega)).2.2
                    have p5 : ∀ z, (V.alloc z).drew.cell? ⟨w.heap.size + 1, i * 3 + 2, none⟩ = some (.int .i64 (b.get i).den) := fun z => (World.cell?_alloc_old _ _ _ (show w.heap.size + 1 ≠ V.heap.size by omega)).trans b5
                    go_wp2
                    go_region_held3 (fun w' => w'.cell? ⟨w.heap.size, k * 3, none⟩ = some (.int .i64 (a.get k).re) ∧ w'.cell? ⟨w.heap.size, k * 3 + 1, none⟩ = some (.int .i64 (a.get k).im) ∧ w'.cell? ⟨w.heap.size, k * 3 + 2, none⟩ = some (.int .i64 (a.get k).den) ∧ w'.cell? ⟨w.heap.size + 1, i * 3, none⟩ = some (.int .i64 (b.get i).re) ∧ w'.cell? ⟨w.heap.size + 1, i * 3 + 1, none⟩ = some (.int .i64 (b.get i).im) ∧ w'.cell? ⟨w.heap.size + 1, i * 3 + 2, none⟩ = some (.int .i64 (b.get i).den)) (((try dsimp only); (first | (with_reducible exact ⟨b0, b1, b2, b3, b4, b5⟩) | (with_reducible exact ⟨p0 _, p1 _, p2 _, p3 _, p4 _, p5 _⟩) | (with_reducible exact ⟨q0, q1, q2, q3, q4, q5⟩) | (with_reducible exact ⟨r0 _, r1 _, r2 _, r3 _, r4 _, r5 _⟩) | (with_reducible exact ⟨s0 _ _ _, s1 _ _ _, s2 _ _ _, s3 _ _ _, s4 _ _ _, s5 _ _ _⟩)))) (first | (go_at_call 71; (with_reducible refine (sptimes_fr (a.get k) (b.get i) V.drew).mono ?_); rintro e w6 ho; obtain ⟨rfl, hb⟩ := ho.fn; have HT := Lib.hid (HT.out.drew.next hb); have hzw6 : V.heap.size ≤ w6.heap.size := (by have := hb.size; simpa using this); have q0 : w6.cell? ⟨w.heap.size, k * 3, none⟩ = some (.int .i64 (a.get k).re) := (hb.cell (p := ⟨w.heap.size, k * 3, none⟩) (by show w.heap.size < _; first | omega | (simp <;> omega))).trans (b0); have r0 := fun z => (World.cell?_alloc_old _ z _ (show w.heap.size ≠ w6.heap.size by omega)).trans q0; have q1 : w6.cell? ⟨w.heap.size, k * 3 + 1, none⟩ = some (.int .i64 (a.get k).im) := (hb.cell (p := ⟨w.heap.size, k * 3 + 1, none⟩) (by show w.heap.size < _; first | omega | (simp <;> omega))).trans (b1); have r1 := fun z => (World.cell?_alloc_old _ z _ (show w.heap.size ≠ w6.heap.size by omega)).trans q1; have q2 : w6.cell? ⟨w.heap.size, k * 3 + 2, none⟩ = some (.int .i64 (a.get k).den) := (hb.cell (p := ⟨w.heap.size, k * 3 + 2, none⟩) (by show w.heap.size < _; first | omega | (simp <;> omega))).trans (b2); have r2 := fun z => (World.cell?_alloc_old _ z _ (show w.heap.size ≠ w6.heap.size by omega)).trans q2; have q3 : w6.cell? ⟨w.heap.size + 1, i * 3, none⟩ = some (.int .i64 (b.get i).re) := (hb.cell (p := ⟨w.heap.size + 1, i * 3, none⟩) (by show w.heap.size + 1 < _; first | omega | (simp <;> omega))).trans (b3); have r3 := fun z => (World.cell?_alloc_old _ z _ (show w.heap.size + 1 ≠ w6.heap.size by omega)).trans q3; have q4 : w6.cell? ⟨w.heap.size + 1, i * 3 + 1, none⟩ = some (.int .i64 (b.get i).im) := (hb.cell (p := ⟨w.heap.size + 1, i * 3 + 1, none⟩) (by show w.heap.size + 1 < _; first | omega | (simp <;> omega))).trans (b4); have r4 := fun z => (World.cell?_alloc_old _ z _ (show w.heap.size + 1 ≠ w6.heap.size by omega)).trans q4; have q5 : w6.cell? ⟨w.heap.size + 1, i * 3 + 2, none⟩ = some (.int .i64 (b.get i).den) := (hb.cell (p := ⟨w.heap.size + 1, i * 3 + 2, none⟩) (by show w.heap.size + 1 < _; first | omega | (simp <;> omega))).trans (b5); have r5 := fun z => (World.cell?_alloc_old _ z _ (show w.heap.size + 1 ≠ w6.heap.size by omega)).trans q5; have HXx := Lib.hid ((BoxAt.drew' HXx.out).below hb (by simpa using hzHXx)); clear ho hb) | (go_at_call 71; (with_reducible refine (sptimes_fr (a.get k) (b.get i) (World.drew (V.alloc _))).mono ?_); rintro e w6 ho; obtain ⟨rfl, hb⟩ := ho.fn; have HT := Lib.hid ((HT.out.alloc _).drew.next hb); have hzw6 : V.heap.size + 1 ≤ w6.heap.size := (by have := hb.size; simpa using this); have q0 : w6.cell? ⟨w.heap.size, k * 3, none⟩ = some (.int .i64 (a.get k).re) := (hb.cell (p := ⟨w.heap.size, k * 3, none⟩) (by show w.heap.size < _; first | omega | (simp <;> omega))).trans (p0 _); have s0 := fun u v x => (far3 (i := 0) (j := 1) (k := 2) (u := u) (v := v) (x := x) (show V.heap.size ≠ w.heap.size by omega)).trans q0; have q1 : w6.cell? ⟨w.heap.size, k * 3 + 1, none⟩ = some (.int .i64 (a.get k).im) := (hb.cell (p := ⟨w.heap.size, k * 3 + 1, none⟩) (by show w.heap.size < _; first | omega | (simp <;> omega))).trans (p1 _); have s1 := fun u v x => (far3 (i := 0) (j := 1) (k := 2) (u := u) (v := v) (x := x) (show V.heap.size ≠ w.heap.size by omega)).trans q1; have q2 : w6.cell? ⟨w.heap.size, k * 3 + 2, none⟩ = some (.int .i64 (a.get k).den) := (hb.cell (p := ⟨w.heap.size, k * 3 + 2, none⟩) (by show w.heap.size < _; first | omega | (simp <;> omega))).trans (p2 _); have s2 := fun u v x => (far3 (i := 0) (j := 1) (k := 2) (u := u) (v := v) (x := x) (show V.heap.size ≠ w.heap.size by omega)).trans q2; have q3 : w6.cell? ⟨w.heap.size + 1, i * 3, none⟩ = some (.int .i64 (b.get i).re) := (hb.cell (p := ⟨w.heap.size + 1, i * 3, none⟩) (by show w.heap.size + 1 < _; first | omega | (simp <;> omega))).trans (p3 _); have s3 := fun u v x => (far3 (i := 0) (j := 1) (k := 2) (u := u) (v := v) (x := x) (show V.heap.size ≠ w.heap.size + 1 by omega)).trans q3; have q4 : w6.cell? ⟨w.heap.size + 1, i * 3 + 1, none⟩ = some (.int .i64 (b.get i).im) := (hb.cell (p := ⟨w.heap.size + 1, i * 3 + 1, none⟩) (by show w.heap.size + 1 < _; first | omega | (simp <;> omega))).trans (p4 _); have s4 := fun u v x => (far3 (i := 0) (j := 1) (k := 2) (u := u) (v := v) (x := x) (show V.heap.size ≠ w.heap.size + 1 by omega)).trans q4; have q5 : w6.cell? ⟨w.heap.size + 1, i * 3 + 2, none⟩ = some (.int .i64 (b.get i).den) := (hb.cell (p := ⟨w.heap.size + 1, i * 3 + 2, none⟩) (by show w.heap.size + 1 < _; first | omega | (simp <;> omega))).trans (p5 _); have s5 := fun u v x => (far3 (i := 0) (j := 1) (k := 2) (u := u) (v := v) (x := x) (show V.heap.size ≠ w.heap.size + 1 by omega)).trans q5; have HXx := Lib.hid ((BoxAt.drew' (HXx.out.alloc hzHXx (.cells #[.int .i64 0, .int .i64 0, .int .i64 0] 23))).below hb (by simp; omega)); have hxB := fun q => hb.cell (p := ⟨V.heap.size, q, none⟩) (by show V.heap.size < _; simp); have hxF := fun q => hb.frozen (p := ⟨V.heap.size, q, none⟩) (by show V.heap.size < _; simp); have HRX := Lib.hid (Room.below (show Room (World.drew (V.alloc (.cells #[.int .i64 0, .int .i64 0, .int .i64 0] 23))) V.heap.size 1 from Room.new' rfl rfl) hb (by simp)); clear ho hb))
                    all_goals (clear b0 b1 b2 b3 b4 b5 p0 p1 p2 p3 p4 p5 q0 q1 q2 q3 q4 q5; first | clear r0 r1 r2 r3 r4 r5 | clear s0 s1 s2 s3 s4 s5)
                    · have hsL := HT.out.below.size
                      have hsA2 := HT.out.hA
                      have hsB2 := HT.out.hB
                      obtain ⟨U, hW⟩ : ∃ W, W = w6.alloc (.cells #[.int .i64 (fTimes (a.get k) (b.get i)).1.re, .int .i64 (fTimes (a.get k) (b.get i)).1.im, .int .i64 (fTimes (a.get k) (b.get i)).1.den] 23) := ⟨_, rfl⟩
                      have HT : Hid (ARel w (w.heap.size) (w.heap.size + 1) a b i k U) := by rw [hW]; exact HT.out.alloc _
                      have HYy : Hid (BoxAt U w6.heap.size (fun _ => (fTimes (a.get k) (b.get i)).1) 1) := by rw [hW]; exact BoxAt.new _ _ _ _ _ (src1 (fTimes (a.get k) (b.get i)).1)
                      have hzHYy : w6.heap.size < U.heap.size := by rw [hW]; simp
                      have HXx : Hid (BoxAt U w5.heap.size (fun _ => (fTimes (a.get i) (b.get k)).1) 1) := by rw [hW]; exact HXx.out.alloc (by omega) _
                      have hzHXx : w5.heap.size < U.heap.size := by rw [hW]; simp; omega
                      rw [← hW]
                      clear hW hsA hsB hsA2 hsB2 hsL
                      have x0 : U.cell? ⟨w5.heap.size, 0, none⟩ = some (.int .i64 (fTimes (a.get i) (b.get k)).1.re) := (HXx.out 0 (by omega)).1
                      have x1 : U.cell? ⟨w5.heap.size, 1, none⟩ = some (.int .i64 (fTimes (a.get i) (b.get k)).1.im) := (HXx.out 0 (by omega)).2.1
                      have x2 : U.cell? ⟨w5.heap.size, 2, none⟩ = some (.int .i64 (fTimes (a.get i) (b.get k)).1.den) := (HXx.out 0 (by omega)).2.2
                      have y0 : U.cell? ⟨w6.heap.size, 0, none⟩ = some (.int .i64 (fTimes (a.get k) (b.get i)).1.re) := (HYy.out 0 (by omega)).1
                      have y1 : U.cell? ⟨w6.heap.size, 1, none⟩ = some (.int .i64 (fTimes (a.get k) (b.get i)).1.im) := (HYy.out 0 (by omega)).2.1
                      have y2 : U.cell? ⟨w6.heap.size, 2, none⟩ = some (.int .i64 (fTimes (a.get k) (b.get i)).1.den) := (HYy.out 0 (by omega)).2.2
                      cases c1 : (fTimes (a.get i) (b.get k)).2
                      · have HG := Lib.hid (alB_bad hk h4 (show gpB a b i k = false by unfold gpB; rw [c1]; rfl))
                        have HB := Lib.hid HT.out.below
                        clear HT HXx HYy
                        go_wp2
                        go_ret
                        exact ⟨by rw [HG0.out, HG.out]; rfl, HB.out⟩
                      · cases c2 : (fTimes (a.get k) (b.get i)).2
                        · have HG := Lib.hid (alB_bad hk h4 (show gpB a b i k = false by unfold gpB; rw [c2]; simp))
                          have HB := Lib.hid HT.out.below
                          clear HT HXx HYy
                          go_wp2
                          go_ret
                          exact ⟨by rw [HG0.out, HG.out]; rfl, HB.out⟩
                        · by_cases e1 : (fTimes (a.get i) (b.get k)).1.re = (fTimes (a.get k) (b.get i)).1.re
                          case neg =>
                            have HG := Lib.hid (alB_bad hk h4 (show gpB a b i k = false by unfold gpB frEq; simp [e1]))
                            have HB := Lib.hid HT.out.below
                            clear HT HXx HYy
                            go_wp2
                            go_ret
                            exact ⟨by rw [HG0.out, HG.out]; rfl, HB.out⟩
                          by_cases e2 : (fTimes (a.get i) (b.get k)).1.im = (fTimes (a.get k) (b.get i)).1.im
                          case neg =>
                            have HG := Lib.hid (alB_bad hk h4 (show gpB a b i k = false by unfold gpB frEq; simp [e2]))
                            have HB := Lib.hid HT.out.below
                            clear HT HXx HYy
                            go_wp2
                            go_ret
                            exact ⟨by rw [HG0.out, HG.out]; rfl, HB.out⟩
                          by_cases e3 : (fTimes (a.get i) (b.get k)).1.den = (fTimes (a.get k) (b.get i)).1.den
                          case neg =>
                            have HG := Lib.hid (alB_bad hk h4 (show gpB a b i k = false by unfold gpB frEq; simp [e3]))
                            have HB := Lib.hid HT.out.below
                            clear HT HXx HYy
                            go_wp2
                            go_ret
                            exact ⟨by rw [HG0.out, HG.out]; rfl, HB.out⟩
                          have HS := Lib.hid (HT.out.step hk (show gpB a b i k = true by unfold gpB frEq; rw [c1, c2]; simp [e1, e2, e3]))
                          clear HT HXx HYy
                          go_wp2
                          go_roundw
                          case rel => exact ⟨k + 1, by go_num, HS.out⟩
                          case measure => simp [intOf]; omega
                    · have hsL := HT.out.below.size
                      have hsA2 := HT.out.hA
                      have hsB2 := HT.out.hB
                      obtain ⟨U, hW⟩ : ∃ W, W = ((w6.setCell ⟨V.heap.size, 0, none⟩ (.int .i64 (fTimes (a.get k) (b.get i)).1.re)).setCell ⟨V.heap.size, 1, none⟩ (.int .i64 (fTimes (a.get k) (b.get i)).1.im)).setCell ⟨V.heap.size, 2, none⟩ (.int .i64 (fTimes (a.get k) (b.get i)).1.den) := ⟨_, rfl⟩
                      have HT : Hid (ARel w (w.heap.size) (w.heap.size + 1) a b i k U) := by rw [hW]; exact HT.out.other (by omega) (by omega) (by omega) (fTimes (a.get k) (b.get i)).1
                      have HYy : Hid (BoxAt U V.heap.size (fun _ => (fTimes (a.get k) (b.get i)).1) 1) := by rw [hW]; exact BoxAt.put (g := fun _ => (fTimes (a.get k) (b.get i)).1) (k := 0) (fun k hk => absurd hk (by omega)) HRX.out (by omega)
                      have hzHYy : V.heap.size < U.heap.size := by rw [hW]; simp; omega
                      have HXx : Hid (BoxAt U w5.heap.size (fun _ => (fTimes (a.get i) (b.get k)).1) 1) := by rw [hW]; exact HXx.out.put_other (M := V.heap.size) (by omega) 0 (fTimes (a.get k) (b.get i)).1
                      have hzHXx : w5.heap.size < U.heap.size := by rw [hW]; simp; omega
                      clear hxB hxF HRX
                      rw [← hW]
                      clear hW hsA hsB hsA2 hsB2 hsL
                      have x0 : U.cell? ⟨w5.heap.size, 0, none⟩ = some (.int .i64 (fTimes (a.get i) (b.get k)).1.re) := (HXx.out 0 (by omega)).1
                      have x1 : U.cell? ⟨w5.heap.size, 1, none⟩ = some (.int .i64 (fTimes (a.get i) (b.get k)).1.im) := (HXx.out 0 (by omega)).2.1
                      have x2 : U.cell? ⟨w5.heap.size, 2, none⟩ = some (.int .i64 (fTimes (a.get i) (b.get k)).1.den) := (HXx.out 0 (by omega)).2.2
                      have y0 : U.cell? ⟨V.heap.size, 0, none⟩ = some (.int .i64 (fTimes (a.get k) (b.get i)).1.re) := (HYy.out 0 (by omega)).1
                      have y1 : U.cell? ⟨V.heap.size, 1, none⟩ = some (.int .i64 (fTimes (a.get k) (b.get i)).1.im) := (HYy.out 0 (by omega)).2.1
                      have y2 : U.cell? ⟨V.heap.size, 2, none⟩ = some (.int .i64 (fTimes (a.get k) (b.get i)).1.den) := (HYy.out 0 (by omega)).2.2
                      cases c1 : (fTimes (a.get i) (b.get k)).2
                      · have HG := Lib.hid (alB_bad hk h4 (show gpB a b i k = false by unfold gpB; rw [c1]; rfl))
                        have HB := Lib.hid HT.out.below
                        clear HT HXx HYy
                        go_wp2
                        go_ret
                        exact ⟨by rw [HG0.out, HG.out]; rfl, HB.out⟩
                      · cases c2 : (fTimes (a.get k) (b.get i)).2
                        · have HG := Lib.hid (alB_bad hk h4 (show gpB a b i k = false by unfold gpB; rw [c2]; simp))
                          have HB := Lib.hid HT.out.below
                          clear HT HXx HYy
                          go_wp2
                          go_ret
                          exact ⟨by rw [HG0.out, HG.out]; rfl, HB.out⟩
                        · by_cases e1 : (fTimes (a.get i) (b.get k)).1.re = (fTimes (a.get k) (b.get i)).1.re
                          case neg =>
                            have HG := Lib.hid (alB_bad hk h4 (show gpB a b i k = false by unfold gpB frEq; simp [e1]))
                            have HB := Lib.hid HT.out.below
                            clear HT HXx HYy
                            go_wp2
                            go_ret
                            exact ⟨by rw [HG0.out, HG.out]; rfl, HB.out⟩
                          by_cases e2 : (fTimes (a.get i) (b.get k)).1.im = (fTimes (a.get k) (b.get i)).1.im
                          case neg =>
                            have HG := Lib.hid (alB_bad hk h4 (show gpB a b i k = false by unfold gpB frEq; simp [e2]))
                            have HB := Lib.hid HT.out.below
                            clear HT HXx HYy
                            go_wp2
                            go_ret
                            exact ⟨by rw [HG0.out, HG.out]; rfl, HB.out⟩
                          by_cases e3 : (fTimes (a.get i) (b.get k)).1.den = (fTimes (a.get k) (b.get i)).1.den
                          case neg =>
                            have HG := Lib.hid (alB_bad hk h4 (show gpB a b i k = false by unfold gpB frEq; simp [e3]))
                            have HB := Lib.hid HT.out.below
                            clear HT HXx HYy
                            go_wp2
                            go_ret
                            exact ⟨by rw [HG0.out, HG.out]; rfl, HB.out⟩
                          have HS := Lib.hid (HT.out.step hk (show gpB a b i k = true by unfold gpB frEq; rw [c1, c2]; simp [e1, e2, e3]))
                          clear HT HXx HYy
                          go_wp2
                          go_roundw
                          case rel => exact ⟨k + 1, by go_num, HS.out⟩
                          case measure => simp [intOf]; omega
                  · have hsL := HT.out.below.size
                    have hsA2 := HT.out.hA
                    have hsB2 := HT.out.hB
                    obtain ⟨V, hW⟩ : ∃ W, W = ((w5.setCell ⟨wr.heap.size, 0, none⟩ (.int .i64 (fTimes (a.get i) (b.get k)).1.re)).setCell ⟨wr.heap.size, 1, none⟩ (.int .i64 (fTimes (a.get i) (b.get k)).1.im)).setCell ⟨wr.heap.size, 2, none⟩ (.int .i64 (fTimes (a.get i) (b.get k)).1.den) := ⟨_, rfl⟩
                    have HT : Hid (ARel w (w.heap.size) (w.heap.size + 1) a b i k V) := by rw [hW]; exact HT.out.other (by omega) (by omega) (by omega) (fTimes (a.get i) (b.get k)).1
                    have HXx : Hid (BoxAt V wr.heap.size (fun _ => (fTimes (a.get i) (b.get k)).1) 1) := by rw [hW]; exact BoxAt.put (g := fun _ => (fTimes (a.get i) (b.get k)).1) (k := 0) (fun k hk => absurd hk (by omega)) HRX.out (by omega)
                    have hzHXx : wr.heap.size < V.heap.size := by rw [hW]; simp; omega
                    clear hxB hxF HRX
                    rw [← hW]
                    clear hW hsA hsB hsA2 hsB2 hsL
                    have hsA := HT.out.hA
                    have hsB := HT.out.hB
                    have b0 : V.drew.cell? ⟨w.heap.size, k * 3, none⟩ = some (.int .i64 (a.get k).re) := (HT.out.one k (by omega)).1
                    have p0 : ∀ z, (V.alloc z).drew.cell? ⟨w.heap.size, k * 3, none⟩ = some (.int .i64 (a.get k).re) := fun z => (World.cell?_alloc_old _ _ _ (show w.heap.size ≠ V.heap.size by omega)).trans b0
                    have b1 : V.drew.cell? ⟨w.heap.size, k * 3 + 1, none⟩ = some (.int .i64 (a.get k).im) := (HT.out.one k (by omega)).2.1
                    have p1 : ∀ z, (V.alloc z).drew.cell? ⟨w.heap.size, k * 3 + 1, none⟩ = some (.int .i64 (a.get k).im) := fun z => (World.cell?_alloc_old _ _ _ (show w.heap.size ≠ V.heap.size by omega)).trans b1
                    have b2 : V.drew.cell? ⟨w.heap.size, k * 3 + 2, none⟩ = some (.int .i64 (a.get k).den) := (HT.out.one k (by omega)).2.2
                    have p2 : ∀ z, (V.alloc z).drew.cell? ⟨w.heap.size, k * 3 + 2, none⟩ = some (.int .i64 (a.get k).den) := fun z => (World.cell?_alloc_old _ _ _ (show w.heap.size ≠ V.heap.size by omega)).trans b2
                    have b3 : V.drew.cell? ⟨w.heap.size + 1, i * 3, none⟩ = some (.int .i64 (b.get i).re) := (HT.out.two i (by omega)).1
                    have p3 : ∀ z, (V.alloc z).drew.cell? ⟨w.heap.size + 1, i * 3, none⟩ = some (.int .i64 (b.get i).re) := fun z => (World.cell?_alloc_old _ _ _ (show w.heap.size + 1 ≠ V.heap.size by omega)).trans b3
                    have b4 : V.drew.cell? ⟨w.heap.size + 1, i * 3 + 1, none⟩ = some (.int .i64 (b.get i).im) := (HT.out.two i (by omega)).2.1
                    have p4 : ∀ z, (V.alloc z).drew.cell? ⟨w.heap.size + 1, i * 3 + 1, none⟩ = some (.int .i64 (b.get i).im) := fun z => (World.cell?_alloc_old _ _ _ (show w.heap.size + 1 ≠ V.heap.size by omega)).trans b4
                    have b5 : V.drew.cell? ⟨w.heap.size + 1, i * 3 + 2, none⟩ = some (.int .i64 (b.get i).den) := (HT.out.two i (by omega)).2.2
                    have p5 : ∀ z, (V.alloc z).drew.cell? ⟨w.heap.size + 1, i * 3 + 2, none⟩ = some (.int .i64 (b.get i).den) := fun z => (World.cell?_alloc_old _ _ _ (show w.heap.size + 1 ≠ V.heap.size by omega)).trans b5
                    go_wp2
                    go_region_held3 (fun w' => w'.cell? ⟨w.heap.size, k * 3, none⟩ = some (.int .i64 (a.get k).re) ∧ w'.cell? ⟨w.heap.size, k * 3 + 1, none⟩ = some (.int .i64 (a.get k).im) ∧ w'.cell? ⟨w.heap.size, k * 3 + 2, none⟩ = some (.int .i64 (a.get k).den) ∧ w'.cell? ⟨w.heap.size + 1, i * 3, none⟩ = some (.int .i64 (b.get i).re) ∧ w'.cell? ⟨w.heap.size + 1, i * 3 + 1, none⟩ = some (.int .i64 (b.get i).im) ∧ w'.cell? ⟨w.heap.size + 1, i * 3 + 2, none⟩ = some (.int .i64 (b.get i).den)) (((try dsimp only); (first | (with_reducible exact ⟨b0, b1, b2, b3, b4, b5⟩) | (with_reducible exact ⟨p0 _, p1 _, p2 _, p3 _, p4 _, p5 _⟩) | (with_reducible exact ⟨q0, q1, q2, q3, q4, q5⟩) | (with_reducible exact ⟨r0 _, r1 _, r2 _, r3 _, r4 _, r5 _⟩) | (with_reducible exact ⟨s0 _ _ _, s1 _ _ _, s2 _ _ _, s3 _ _ _, s4 _ _ _, s5 _ _ _⟩)))) (first | (go_at_call 71; (with_reducible refine (sptimes_fr (a.get k) (b.get i) V.drew).mono ?_); rintro e w6 ho; obtain ⟨rfl, hb⟩ := ho.fn; have HT := Lib.hid (HT.out.drew.next hb); have hzw6 : V.heap.size ≤ w6.heap.size := (by have := hb.size; simpa using this); have q0 : w6.cell? ⟨w.heap.size, k * 3, none⟩ = some (.int .i64 (a.get k).re) := (hb.cell (p := ⟨w.heap.size, k * 3, none⟩) (by show w.heap.size < _; first | omega | (simp <;> omega))).trans (b0); have r0 := fun z => (World.cell?_alloc_old _ z _ (show w.heap.size ≠ w6.heap.size by omega)).trans q0; have q1 : w6.cell? ⟨w.heap.size, k * 3 + 1, none⟩ = some (.int .i64 (a.get k).im) := (hb.cell (p := ⟨w.heap.size, k * 3 + 1, none⟩) (by show w.heap.size < _; first | omega | (simp <;> omega))).trans (b1); have r1 := fun z => (World.cell?_alloc_old _ z _ (show w.heap.size ≠ w6.heap.size by omega)).trans q1; have q2 : w6.cell? ⟨w.heap.size, k * 3 + 2, none⟩ = some (.int .i64 (a.get k).den) := (hb.cell (p := ⟨w.heap.size, k * 3 + 2, none⟩) (by show w.heap.size < _; first | omega | (simp <;> omega))).trans (b2); have r2 := fun z => (World.cell?_alloc_old _ z _ (show w.heap.size ≠ w6.heap.size by omega)).trans q2; have q3 : w6.cell? ⟨w.heap.size + 1, i * 3, none⟩ = some (.int .i64 (b.get i).re) := (hb.cell (p := ⟨w.heap.size + 1, i * 3, none⟩) (by show w.heap.size + 1 < _; first | omega | (simp <;> omega))).trans (b3); have r3 := fun z => (World.cell?_alloc_old _ z _ (show w.heap.size + 1 ≠ w6.heap.size by omega)).trans q3; have q4 : w6.cell? ⟨w.heap.size + 1, i * 3 + 1, none⟩ = some (.int .i64 (b.get i).im) := (hb.cell (p := ⟨w.heap.size + 1, i * 3 + 1, none⟩) (by show w.heap.size + 1 < _; first | omega | (simp <;> omega))).trans (b4); have r4 := fun z => (World.cell?_alloc_old _ z _ (show w.heap.size + 1 ≠ w6.heap.size by omega)).trans q4; have q5 : w6.cell? ⟨w.heap.size + 1, i * 3 + 2, none⟩ = some (.int .i64 (b.get i).den) := (hb.cell (p := ⟨w.heap.size + 1, i * 3 + 2, none⟩) (by show w.heap.size + 1 < _; first | omega | (simp <;> omega))).trans (b5); have r5 := fun z => (World.cell?_alloc_old _ z _ (show w.heap.size + 1 ≠ w6.heap.size by omega)).trans q5; have HXx := Lib.hid ((BoxAt.drew' HXx.out).below hb (by simpa using hzHXx)); clear ho hb) | (go_at_call 71; (with_reducible refine (sptimes_fr (a.get k) (b.get i) (World.drew (V.alloc _))).mono ?_); rintro e w6 ho; obtain ⟨rfl, hb⟩ := ho.fn; have HT := Lib.hid ((HT.out.alloc _).drew.next hb); have hzw6 : V.heap.size + 1 ≤ w6.heap.size := (by have := hb.size; simpa using this); have q0 : w6.cell? ⟨w.heap.size, k * 3, none⟩ = some (.int .i64 (a.get k).re) := (hb.cell (p := ⟨w.heap.size, k * 3, none⟩) (by show w.heap.size < _; first | omega | (simp <;> omega))).trans (p0 _); have s0 := fun u v x => (far3 (i := 0) (j := 1) (k := 2) (u := u) (v := v) (x := x) (show V.heap.size ≠ w.heap.size by omega)).trans q0; have q1 : w6.cell? ⟨w.heap.size, k * 3 + 1, none⟩ = some (.int .i64 (a.get k).im) := (hb.cell (p := ⟨w.heap.size, k * 3 + 1, none⟩) (by show w.heap.size < _; first | omega | (simp <;> omega))).trans (p1 _); have s1 := fun u v x => (far3 (i := 0) (j := 1) (k := 2) (u := u) (v := v) (x := x) (show V.heap.size ≠ w.heap.size by omega)).trans q1; have q2 : w6.cell? ⟨w.heap.size, k * 3 + 2, none⟩ = some (.int .i64 (a.get k).den) := (hb.cell (p := ⟨w.heap.size, k * 3 + 2, none⟩) (by show w.heap.size < _; first | omega | (simp <;> omega))).trans (p2 _); have s2 := fun u v x => (far3 (i := 0) (j := 1) (k := 2) (u := u) (v := v) (x := x) (show V.heap.size ≠ w.heap.size by omega)).trans q2; have q3 : w6.cell? ⟨w.heap.size + 1, i * 3, none⟩ = some (.int .i64 (b.get i).re) := (hb.cell (p := ⟨w.heap.size + 1, i * 3, none⟩) (by show w.heap.size + 1 < _; first | omega | (simp <;> omega))).trans (p3 _); have s3 := fun u v x => (far3 (i := 0) (j := 1) (k := 2) (u := u) (v := v) (x := x) (show V.heap.size ≠ w.heap.size + 1 by omega)).trans q3; have q4 : w6.cell? ⟨w.heap.size + 1, i * 3 + 1, none⟩ = some (.int .i64 (b.get i).im) := (hb.cell (p := ⟨w.heap.size + 1, i * 3 + 1, none⟩) (by show w.heap.size + 1 < _; first | omega | (simp <;> omega))).trans (p4 _); have s4 := fun u v x => (far3 (i := 0) (j := 1) (k := 2) (u := u) (v := v) (x := x) (show V.heap.size ≠ w.heap.size + 1 by omega)).trans q4; have q5 : w6.cell? ⟨w.heap.size + 1, i * 3 + 2, none⟩ = some (.int .i64 (b.get i).den) := (hb.cell (p := ⟨w.heap.size + 1, i * 3 + 2, none⟩) (by show w.heap.size + 1 < _; first | omega | (simp <;> omega))).trans (p5 _); have s5 := fun u v x => (far3 (i := 0) (j := 1) (k := 2) (u := u) (v := v) (x := x) (show V.heap.size ≠ w.heap.size + 1 by omega)).trans q5; have HXx := Lib.hid ((BoxAt.drew' (HXx.out.alloc hzHXx (.cells #[.int .i64 0, .int .i64 0, .int .i64 0] 23))).below hb (by simp; omega)); have hxB := fun q => hb.cell (p := ⟨V.heap.size, q, none⟩) (by show V.heap.size < _; simp); have hxF := fun q => hb.frozen (p := ⟨V.heap.size, q, none⟩) (by show V.heap.size < _; simp); have HRX := Lib.hid (Room.below (show Room (World.drew (V.alloc (.cells #[.int .i64 0, .int .i64 0, .int .i64 0] 23))) V.heap.size 1 from Room.new' rfl rfl) hb (by simp)); clear ho hb))
                    all_goals (clear b0 b1 b2 b3 b4 b5 p0 p1 p2 p3 p4 p5 q0 q1 q2 q3 q4 q5; first | clear r0 r1 r2 r3 r4 r5 | clear s0 s1 s2 s3 s4 s5)
                    · have hsL := HT.out.below.size
                      have hsA2 := HT.out.hA
                      have hsB2 := HT.out.hB
                      obtain ⟨U, hW⟩ : ∃ W, W = w6.alloc (.cells #[.int .i64 (fTimes (a.get k) (b.get i)).1.re, .int .i64 (fTimes (a.get k) (b.get i)).1.im, .int .i64 (fTimes (a.get k) (b.get i)).1.den] 23) := ⟨_, rfl⟩
                      have HT : Hid (ARel w (w.heap.size) (w.heap.size + 1) a b i k U) := by rw [hW]; exact HT.out.alloc _
                      have HYy : Hid (BoxAt U w6.heap.size (fun _ => (fTimes (a.get k) (b.get i)).1) 1) := by rw [hW]; exact BoxAt.new _ _ _ _ _ (src1 (fTimes (a.get k) (b.get i)).1)
                      have hzHYy : w6.heap.size < U.heap.size := by rw [hW]; simp
                      have HXx : Hid (BoxAt U wr.heap.size (fun _ => (fTimes (a.get i) (b.get k)).1) 1) := by rw [hW]; exact HXx.out.alloc (by omega) _
                      have hzHXx : wr.heap.size < U.heap.size := by rw [hW]; simp; omega
                      rw [← hW]
                      clear hW hsA hsB hsA2 hsB2 hsL
                      have x0 : U.cell? ⟨wr.heap.size, 0, none⟩ = some (.int .i64 (fTimes (a.get i) (b.get k)).1.re) := (HXx.out 0 (by omega)).1
                      have x1 : U.cell? ⟨wr.heap.size, 1, none⟩ = some (.int .i64 (fTimes (a.get i) (b.get k)).1.im) := (HXx.out 0 (by omega)).2.1
                      have x2 : U.cell? ⟨wr.heap.size, 2, none⟩ = some (.int .i64 (fTimes (a.get i) (b.get k)).1.den) := (HXx.out 0 (by omega)).2.2
                      have y0 : U.cell? ⟨w6.heap.size, 0, none⟩ = some (.int .i64 (fTimes (a.get k) (b.get i)).1.re) := (HYy.out 0 (by omega)).1
                      have y1 : U.cell? ⟨w6.heap.size, 1, none⟩ = some (.int .i64 (fTimes (a.get k) (b.get i)).1.im) := (HYy.out 0 (by omega)).2.1
                      have y2 : U.cell? ⟨w6.heap.size, 2, none⟩ = some (.int .i64 (fTimes (a.get k) (b.get i)).1.den) := (HYy.out 0 (by omega)).2.2
                      cases c1 : (fTimes (a.get i) (b.get k)).2
                      · have HG := Lib.hid (alB_bad hk h4 (show gpB a b i k = false by unfold gpB; rw [c1]; rfl))
                        have HB := Lib.hid HT.out.below
                        clear HT HXx HYy
                        go_wp2
                        go_ret
                        exact ⟨by rw [HG0.out, HG.out]; rfl, HB.out⟩
                      · cases c2 : (fTimes (a.get k) (b.get i)).2
                        · have HG := Lib.hid (alB_bad hk h4 (show gpB a b i k = false by unfold gpB; rw [c2]; simp))
                          have HB := Lib.hid HT.out.below
                          clear HT HXx HYy
                          go_wp2
                          go_ret
                          exact ⟨by rw [HG0.out, HG.out]; rfl, HB.out⟩
                        · by_cases e1 : (fTimes (a.get i) (b.get k)).1.re = (fTimes (a.get k) (b.get i)).1.re
                          case neg =>
                            have HG := Lib.hid (alB_bad hk h4 (show gpB a b i k = false by unfold gpB frEq; simp [e1]))
                            have HB := Lib.hid HT.out.below
                            clear HT HXx HYy
                            go_wp2
                            go_ret
                            exact ⟨by rw [HG0.out, HG.out]; rfl, HB.out⟩
                          by_cases e2 : (fTimes (a.get i) (b.get k)).1.im = (fTimes (a.get k) (b.get i)).1.im
                          case neg =>
                            have HG := Lib.hid (alB_bad hk h4 (show gpB a b i k = false by unfold gpB frEq; simp [e2]))
                            have HB := Lib.hid HT.out.below
                            clear HT HXx HYy
                            go_wp2
                            go_ret
                            exact ⟨by rw [HG0.out, HG.out]; rfl, HB.out⟩
                          by_cases e3 : (fTimes (a.get i) (b.get k)).1.den = (fTimes (a.get k) (b.get i)).1.den
                          case neg =>
                            have HG := Lib.hid (alB_bad hk h4 (show gpB a b i k = false by unfold gpB frEq; simp [e3]))
                            have HB := Lib.hid HT.out.below
                            clear HT HXx HYy
                            go_wp2
                            go_ret
                            exact ⟨by rw [HG0.out, HG.out]; rfl, HB.out⟩
                          have HS := Lib.hid (HT.out.step hk (show gpB a b i k = true by unfold gpB frEq; rw [c1, c2]; simp [e1, e2, e3]))
                          clear HT HXx HYy
                          go_wp2
                          go_roundw
                          case rel => exact ⟨k + 1, by go_num, HS.out⟩
                          case measure => simp [intOf]; omega
                    · have hsL := HT.out.below.size
                      have hsA2 := HT.out.hA
                      have hsB2 := HT.out.hB
                      obtain ⟨U, hW⟩ : ∃ W, W = ((w6.setCell ⟨V.heap.size, 0, none⟩ (.int .i64 (fTimes (a.get k) (b.get i)).1.re)).setCell ⟨V.heap.size, 1, none⟩ (.int .i64 (fTimes (a.get k) (b.get i)).1.im)).setCell ⟨V.heap.size, 2, none⟩ (.int .i64 (fTimes (a.get k) (b.get i)).1.den) := ⟨_, rfl⟩
                      have HT : Hid (ARel w (w.heap.size) (w.heap.size + 1) a b i k U) := by rw [hW]; exact HT.out.other (by omega) (by omega) (by omega) (fTimes (a.get k) (b.get i)).1
                      have HYy : Hid (BoxAt U V.heap.size (fun _ => (fTimes (a.get k) (b.get i)).1) 1) := by rw [hW]; exact BoxAt.put (g := fun _ => (fTimes (a.get k) (b.get i)).1) (k := 0) (fun k hk => absurd hk (by omega)) HRX.out (by omega)
                      have hzHYy : V.heap.size < U.heap.size := by rw [hW]; simp; omega
                      have HXx : Hid (BoxAt U wr.heap.size (fun _ => (fTimes (a.get i) (b.get k)).1) 1) := by rw [hW]; exact HXx.out.put_other (M := V.heap.size) (by omega) 0 (fTimes (a.get k) (b.get i)).1
                      have hzHXx : wr.heap.size < U.heap.size := by rw [hW]; simp; omega
                      clear hxB hxF HRX
                      rw [← hW]
                      clear hW hsA hsB hsA2 hsB2 hsL
                      have x0 : U.cell? ⟨wr.heap.size, 0, none⟩ = some (.int .i64 (fTimes (a.get i) (b.get k)).1.re) := (HXx.out 0 (by omega)).1
                      have x1 : U.cell? ⟨wr.heap.size, 1, none⟩ = some (.int .i64 (fTimes (a.get i) (b.get k)).1.im) := (HXx.out 0 (by omega)).2.1
                      have x2 : U.cell? ⟨wr.heap.size, 2, none⟩ = some (.int .i64 (fTimes (a.get i) (b.get k)).1.den) := (HXx.out 0 (by omega)).2.2
                      have y0 : U.cell? ⟨V.heap.size, 0, none⟩ = some (.int .i64 (fTimes (a.get k) (b.get i)).1.re) := (HYy.out 0 (by omega)).1
                      have y1 : U.cell? ⟨V.heap.size, 1, none⟩ = some (.int .i64 (fTimes (a.get k) (b.get i)).1.im) := (HYy.out 0 (by omega)).2.1
                      have y2 : U.cell? ⟨V.heap.size, 2, none⟩ = some (.int .i64 (fTimes (a.get k) (b.get i)).1.den) := (HYy.out 0 (by omega)).2.2
                      cases c1 : (fTimes (a.get i) (b.get k)).2
                      · have HG := Lib.hid (alB_bad hk h4 (show gpB a b i k = false by unfold gpB; rw [c1]; rfl))
                        have HB := Lib.hid HT.out.below
                        clear HT HXx HYy
                        go_wp2
                        go_ret
                        exact ⟨by rw [HG0.out, HG.out]; rfl, HB.out⟩
                      · cases c2 : (fTimes (a.get k) (b.get i)).2
                        · have HG := Lib.hid (alB_bad hk h4 (show gpB a b i k = false by unfold gpB; rw [c2]; simp))
                          have HB := Lib.hid HT.out.below
                          clear HT HXx HYy
                          go_wp2
                          go_ret
                          exact ⟨by rw [HG0.out, HG.out]; rfl, HB.out⟩
                        · by_cases e1 : (fTimes (a.get i) (b.get k)).1.re = (fTimes (a.get k) (b.get i)).1.re
                          case neg =>
                            have HG := Lib.hid (alB_bad hk h4 (show gpB a b i k = false by unfold gpB frEq; simp [e1]))
                            have HB := Lib.hid HT.out.below
                            clear HT HXx HYy
                            go_wp2
                            go_ret
                            exact ⟨by rw [HG0.out, HG.out]; rfl, HB.out⟩
                          by_cases e2 : (fTimes (a.get i) (b.get k)).1.im = (fTimes (a.get k) (b.get i)).1.im
                          case neg =>
                            have HG := Lib.hid (alB_bad hk h4 (show gpB a b i k = false by unfold gpB frEq; simp [e2]))
                            have HB := Lib.hid HT.out.below
                            clear HT HXx HYy
                            go_wp2
                            go_ret
                            exact ⟨by rw [HG0.out, HG.out]; rfl, HB.out⟩
                          by_cases e3 : (fTimes (a.get i) (b.get k)).1.den = (fTimes (a.get k) (b.get i)).1.den
                          case neg =>
                            have HG := Lib.hid (alB_bad hk h4 (show gpB a b i k = false by unfold gpB frEq; simp [e3]))
                            have HB := Lib.hid HT.out.below
                            clear HT HXx HYy
                            go_wp2
                            go_ret
                            exact ⟨by rw [HG0.out, HG.out]; rfl, HB.out⟩
                          have HS := Lib.hid (HT.out.step hk (show gpB a b i k = true by unfold gpB frEq; rw [c1, c2]; simp [e1, e2, e3]))
                          clear HT HXx HYy
                          go_wp2
                          go_roundw
                          case rel => exact ⟨k + 1, by go_num, HS.out⟩
                          case measure => simp [intOf]; omega
                · obtain rfl : k = i := by have := hT.lk; omega
                  go_wp2
                  go_roundw
                  case rel => exact ⟨k + 1, by go_num, hT.row h4⟩
                  case measure => simp [intOf]; omega
            · obtain rfl : i = 4 := by have := hT.le; omega
              have HG : Hid (alB a b = true) := alB_all (fun p q hq hp => hT.good p q hq (Or.inl hp))
              go_wp2
              go_ret
              exact ⟨by rw [HG0.out, HG.out]; rfl, hT.below⟩
        · skip
          have HG : Hid (gMAl a b = false) := by show _ = _; unfold gMAl; rw [h3, h4]; simp
          have HB : Hid (Below w.heap.size w w) := Below.refl _ _
          go_enter Tryd.func21, Tryd.ntmps21
          go_wp2_with fail
          refine wp_region_held_drew (S := (fun w' => (w'.cell? ⟨w.heap.size, 0, none⟩ = some (.int .i64 a.a.re) ∧ w'.cell? ⟨w.heap.size, 1, none⟩ = some (.int .i64 a.a.im) ∧ w'.cell? ⟨w.heap.size, 2, none⟩ = some (.int .i64 a.a.den) ∧ w'.cell? ⟨w.heap.size, 3, none⟩ = some (.int .i64 a.b.re) ∧ w'.cell? ⟨w.heap.size, 4, none⟩ = some (.int .i64 a.b.im) ∧ w'.cell? ⟨w.heap.size, 5, none⟩ = some (.int .i64 a.b.den) ∧ w'.cell? ⟨w.heap.size, 6, none⟩ = some (.int .i64 a.c.re) ∧ w'.cell? ⟨w.heap.size, 7, none⟩ = some (.int .i64 a.c.im) ∧ w'.cell? ⟨w.heap.size, 8, none⟩ = some (.int .i64 a.c.den) ∧ w'.cell? ⟨w.heap.size, 9, none⟩ = some (.int .i64 a.d.re) ∧ w'.cell? ⟨w.heap.size, 10, none⟩ = some (.int .i64 a.d.im) ∧ w'.cell? ⟨w.heap.size, 11, none⟩ = some (.int .i64 a.d.den)) ∧ (w'.cell? ⟨w.heap.size + 1, 0, none⟩ = some (.int .i64 b.a.re) ∧ w'.cell? ⟨w.heap.size + 1, 1, none⟩ = some (.int .i64 b.a.im) ∧ w'.cell? ⟨w.heap.size + 1, 2, none⟩ = some (.int .i64 b.a.den) ∧ w'.cell? ⟨w.heap.size + 1, 3, none⟩ = some (.int .i64 b.b.re) ∧ w'.cell? ⟨w.heap.size + 1, 4, none⟩ = some (.int .i64 b.b.im) ∧ w'.cell? ⟨w.heap.size + 1, 5, none⟩ = some (.int .i64 b.b.den) ∧ w'.cell? ⟨w.heap.size + 1, 6, none⟩ = some (.int .i64 b.c.re) ∧ w'.cell? ⟨w.heap.size + 1, 7, none⟩ = some (.int .i64 b.c.im) ∧ w'.cell? ⟨w.heap.size + 1, 8, none⟩ = some (.int .i64 b.c.den) ∧ w'.cell? ⟨w.heap.size + 1, 9, none⟩ = some (.int .i64 b.d.re) ∧ w'.cell? ⟨w.heap.size + 1, 10, none⟩ = some (.int .i64 b.d.im) ∧ w'.cell? ⟨w.heap.size + 1, 11, none⟩ = some (.int .i64 b.d.den)))) (by kernel_rfl) (show _ from ⟨(cellsM (show World.rangeAt (World.drew ((w.alloc (.cells #[.int .i64 a.a.re, .int .i64 a.a.im, .int .i64 a.a.den, .int .i64 a.b.re, .int .i64 a.b.im, .int .i64 a.b.den, .int .i64 a.c.re, .int .i64 a.c.im, .int .i64 a.c.den, .int .i64 a.d.re, .int .i64 a.d.im, .int .i64 a.d.den] 41)).alloc (.cells #[.int .i64 b.a.re, .int .i64 b.a.im, .int .i64 b.a.den, .int .i64 b.b.re, .int .i64 b.b.im, .int .i64 b.b.den, .int .i64 b.c.re, .int .i64 b.c.im, .int .i64 b.c.den, .int .i64 b.d.re, .int .i64 b.d.im, .int .i64 b.d.den] 41))) (w.heap.size) 0 [.int .i64 a.a.re, .int .i64 a.a.im, .int .i64 a.a.den, .int .i64 a.b.re, .int .i64 a.b.im, .int .i64 a.b.den, .int .i64 a.c.re, .int .i64 a.c.im, .int .i64 a.c.den, .int .i64 a.d.re, .int .i64 a.d.im, .int .i64 a.d.den] from (World.rangeAt_alloc (rangeAt_new _ _ _) _))), (cellsM (show World.rangeAt (World.drew ((w.alloc (.cells #[.int .i64 a.a.re, .int .i64 a.a.im, .int .i64 a.a.den, .int .i64 a.b.re, .int .i64 a.b.im, .int .i64 a.b.den, .int .i64 a.c.re, .int .i64 a.c.im, .int .i64 a.c.den, .int .i64 a.d.re, .int .i64 a.d.im, .int .i64 a.d.den] 41)).alloc (.cells #[.int .i64 b.a.re, .int .i64 b.a.im, .int .i64 b.a.den, .int .i64 b.b.re, .int .i64 b.b.im, .int .i64 b.b.den, .int .i64 b.c.re, .int .i64 b.c.im, .int .i64 b.c.den, .int .i64 b.d.re, .int .i64 b.d.im, .int .i64 b.d.den] 41))) (w.heap.size + 1) 0 [.int .i64 b.a.re, .int .i64 b.a.im, .int .i64 b.a.den, .int .i64 b.b.re, .int .i64 b.b.im, .int .i64 b.b.den, .int .i64 b.c.re, .int .i64 b.c.im, .int .i64 b.c.den, .int .i64 b.d.re, .int .i64 b.d.im, .int .i64 b.d.den] from (rangeAt_nw (by simp))))⟩) (fun hHeld => ?_)
          refine wpAnyH_take (i := 0) (v := ?_) rfl (by kernel_rfl) (by kernel_rfl) (by kernel_rfl) (fun _ _ _ h => h) (Or.inl ⟨by rfl, ?_⟩) (by assumption) ?_
          rotate_left
          (focus (intro w hSw; (try dsimp only at hSw); go_simp; (try with_reducible rfl)))
          (try simp only [Act.put, List.getElem_toArray, List.getElem_cons_zero, List.setIfInBounds_toArray, List.set_cons_zero, List.set_cons_succ])
          refine wpAnyH_ready (rs := [1]) (by kernel_rfl) (by simp) ?_
          refine AllReadyH.cons rfl (fun K hK => ?_) AllReadyH.nil
          go_simp
          go_at_call 69
          (with_reducible refine (smatvalid_any a _).mono ?_)
          rintro e w1 ho
          rw [h1] at ho
          obtain ⟨rfl, hb⟩ : e = .returned (.bool true) ∧ Below _ _ _ := (id ho)
          clear ho
          have HB := Lib.hid (show Below w.heap.size w w1 from HB.out.trans ((show Below _ _ _ from ((((Below.refl _ _).alloc (by first | omega | (simp; done) | (simp <;> omega)) _).alloc (by first | omega | (simp; done) | (simp <;> omega)) _).drew)).trans (hb.mono (by first | omega | (simp <;> omega)))))
          have Ha : Hid (w1.rangeAt (w.heap.size) 0 [.int .i64 a.a.re, .int .i64 a.a.im, .int .i64 a.a.den, .int .i64 a.b.re, .int .i64 a.b.im, .int .i64 a.b.den, .int .i64 a.c.re, .int .i64 a.c.im, .int .i64 a.c.den, .int .i64 a.d.re, .int .i64 a.d.im, .int .i64 a.d.den]) := rangeAt_below (show World.rangeAt (World.drew ((w.alloc (.cells #[.int .i64 a.a.re, .int .i64 a.a.im, .int .i64 a.a.den, .int .i64 a.b.re, .int .i64 a.b.im, .int .i64 a.b.den, .int .i64 a.c.re, .int .i64 a.c.im, .int .i64 a.c.den, .int .i64 a.d.re, .int .i64 a.d.im, .int .i64 a.d.den] 41)).alloc (.cells #[.int .i64 b.a.re, .int .i64 b.a.im, .int .i64 b.a.den, .int .i64 b.b.re, .int .i64 b.b.im, .int .i64 b.b.den, .int .i64 b.c.re, .int .i64 b.c.im, .int .i64 b.c.den, .int .i64 b.d.re, .int .i64 b.d.im, .int .i64 b.d.den] 41))) (w.heap.size) 0 [.int .i64 a.a.re, .int .i64 a.a.im, .int .i64 a.a.den, .int .i64 a.b.re, .int .i64 a.b.im, .int .i64 a.b.den, .int .i64 a.c.re, .int .i64 a.c.im, .int .i64 a.c.den, .int .i64 a.d.re, .int .i64 a.d.im, .int .i64 a.d.den] from (World.rangeAt_alloc (rangeAt_new _ _ _) _)) hb (by first | omega | (simp; done) | (simp <;> omega))
          have Hb : Hid (w1.rangeAt (w.heap.size + 1) 0 [.int .i64 b.a.re, .int .i64 b.a.im, .int .i64 b.a.den, .int .i64 b.b.re, .int .i64 b.b.im, .int .i64 b.b.den, .int .i64 b.c.re, .int .i64 b.c.im, .int .i64 b.c.den, .int .i64 b.d.re, .int .i64 b.d.im, .int .i64 b.d.den]) := rangeAt_below (show World.rangeAt (World.drew ((w.alloc (.cells #[.int .i64 a.a.re, .int .i64 a.a.im, .int .i64 a.a.den, .int .i64 a.b.re, .int .i64 a.b.im, .int .i64 a.b.den, .int .i64 a.c.re, .int .i64 a.c.im, .int .i64 a.c.den, .int .i64 a.d.re, .int .i64 a.d.im, .int .i64 a.d.den] 41)).alloc (.cells #[.int .i64 b.a.re, .int .i64 b.a.im, .int .i64 b.a.den, .int .i64 b.b.re, .int .i64 b.b.im, .int .i64 b.b.den, .int .i64 b.c.re, .int .i64 b.c.im, .int .i64 b.c.den, .int .i64 b.d.re, .int .i64 b.d.im, .int .i64 b.d.den] 41))) (w.heap.size + 1) 0 [.int .i64 b.a.re, .int .i64 b.a.im, .int .i64 b.a.den, .int .i64 b.b.re, .int .i64 b.b.im, .int .i64 b.b.den, .int .i64 b.c.re, .int .i64 b.c.im, .int .i64 b.c.den, .int .i64 b.d.re, .int .i64 b.d.im, .int .i64 b.d.den] from (rangeAt_nw (by simp))) hb (by first | omega | (simp; done) | (simp <;> omega))
          have hz1 := hb.size
          (try simp at hz1)
          clear hb
          have nA0 : w.heap.size < w1.heap.size := by omega
          have nB0 : ¬ w.heap.size = w1.heap.size := by omega
          have nC0 : ¬ w1.heap.size = w.heap.size := by omega
          have nA1 : w.heap.size + 1 < w1.heap.size := by omega
          have nB1 : ¬ w.heap.size + 1 = w1.heap.size := by omega
          have nC1 : ¬ w1.heap.size = w.heap.size + 1 := by omega
          refine hK.out _ _ (show _ from ⟨(cellsM Ha.out), (cellsM Hb.out)⟩) (fun hHeld => ?_)
          clear hK K
          (try simp only [Act.put, List.getElem_toArray, List.getElem_cons_succ, List.getElem_cons_zero, List.setIfInBounds_toArray, List.set_cons_zero, List.set_cons_succ])
          refine wpAnyH_take (i := 2) (v := ?_) rfl (by kernel_rfl) (by kernel_rfl) (by kernel_rfl) (fun _ _ _ h => h) (Or.inl ⟨by rfl, ?_⟩) (by assumption) ?_
          rotate_left
          (focus (intro w hSw; (try dsimp only at hSw); go_simp; (try with_reducible rfl)))
          (try simp only [Act.put, List.getElem_toArray, List.getElem_cons_succ, List.getElem_cons_zero, List.setIfInBounds_toArray, List.set_cons_zero, List.set_cons_succ])
          refine wpAnyH_take (i := 3) (v := ?_) rfl (by kernel_rfl) (by kernel_rfl) (by kernel_rfl) (fun _ _ _ h => h) (Or.inl ⟨by rfl, ?_⟩) (by assumption) ?_
          rotate_left
          (focus (intro w hSw; (try dsimp only at hSw); go_simp; (try with_reducible rfl)))
          (try simp only [Act.put, List.getElem_toArray, List.getElem_cons_succ, List.getElem_cons_zero, List.setIfInBounds_toArray, List.set_cons_zero, List.set_cons_succ])
          refine wpAnyH_take (i := 4) (v := ?_) rfl (by kernel_rfl) (by kernel_rfl) (by kernel_rfl) (fun _ _ _ h => h) (Or.inl ⟨by rfl, ?_⟩) (by assumption) ?_
          rotate_left
          (focus (intro w hSw; (try dsimp only at hSw); go_simp; (try with_reducible rfl)))
          (try simp only [Act.put, List.getElem_toArray, List.getElem_cons_succ, List.getElem_cons_zero, List.setIfInBounds_toArray, List.set_cons_zero, List.set_cons_succ])
          refine wpAnyH_ready (rs := [5]) (by kernel_rfl) (by simp) ?_
          refine AllReadyH.cons rfl (fun K hK => ?_) AllReadyH.nil
          go_simp
          go_at_call 69
          (with_reducible refine (smatvalid_any b _).mono ?_)
          rintro e w2 ho
          rw [h2] at ho
          obtain ⟨rfl, hb⟩ : e = .returned (.bool true) ∧ Below _ _ _ := (id ho)
          clear ho
          have HB := Lib.hid (show Below w.heap.size w w2 from HB.out.trans ((show Below _ _ _ from (Below.refl _ _)).trans (hb.mono (by first | omega | (simp <;> omega)))))
          have Ha : Hid (w2.rangeAt (w.heap.size) 0 [.int .i64 a.a.re, .int .i64 a.a.im, .int .i64 a.a.den, .int .i64 a.b.re, .int .i64 a.b.im, .int .i64 a.b.den, .int .i64 a.c.re, .int .i64 a.c.im, .int .i64 a.c.den, .int .i64 a.d.re, .int .i64 a.d.im, .int .i64 a.d.den]) := rangeAt_below Ha.out hb (by first | omega | (simp; done) | (simp <;> omega))
          have Hb : Hid (w2.rangeAt (w.heap.size + 1) 0 [.int .i64 b.a.re, .int .i64 b.a.im, .int .i64 b.a.den, .int .i64 b.b.re, .int .i64 b.b.im, .int .i64 b.b.den, .int .i64 b.c.re, .int .i64 b.c.im, .int .i64 b.c.den, .int .i64 b.d.re, .int .i64 b.d.im, .int .i64 b.d.den]) := rangeAt_below Hb.out hb (by first | omega | (simp; done) | (simp <;> omega))
          have hz2 := hb.size
          (try simp at hz2)
          clear hb
          have nA0 : w.heap.size < w2.heap.size := by omega
          have nB0 : ¬ w.heap.size = w2.heap.size := by omega
          have nC0 : ¬ w2.heap.size = w.heap.size := by omega
          have nA1 : w.heap.size + 1 < w2.heap.size := by omega
          have nB1 : ¬ w.heap.size + 1 = w2.heap.size := by omega
          have nC1 : ¬ w2.heap.size = w.heap.size + 1 := by omega
          refine hK.out _ _ (show _ from ⟨(cellsM Ha.out), (cellsM Hb.out)⟩) (fun hHeld => ?_)
          clear hK K
          (try simp only [Act.put, List.getElem_toArray, List.getElem_cons_succ, List.getElem_cons_zero, List.setIfInBounds_toArray, List.set_cons_zero, List.set_cons_succ])
          refine wpAnyH_take (i := 6) (v := ?_) rfl (by kernel_rfl) (by kernel_rfl) (by kernel_rfl) (fun _ _ _ h => h) (Or.inl ⟨by rfl, ?_⟩) (by assumption) ?_
          rotate_left
          (focus (intro w hSw; (try dsimp only at hSw); go_simp; (try with_reducible rfl)))
          (try simp only [Act.put, List.getElem_toArray, List.getElem_cons_succ, List.getElem_cons_zero, List.setIfInBounds_toArray, List.set_cons_zero, List.set_cons_succ])
          refine wpAnyH_take (i := 7) (v := ?_) rfl (by kernel_rfl) (by kernel_rfl) (by kernel_rfl) (fun _ _ _ h => h) (Or.inl ⟨by rfl, ?_⟩) (by assumption) ?_
          rotate_left
          (focus (intro w hSw; (try dsimp only at hSw); go_simp; (try with_reducible rfl)))
          (try simp only [Act.put, List.getElem_toArray, List.getElem_cons_succ, List.getElem_cons_zero, List.setIfInBounds_toArray, List.set_cons_zero, List.set_cons_succ])
          refine wpAnyH_take (i := 8) (v := ?_) rfl (by kernel_rfl) (by kernel_rfl) (by kernel_rfl) (fun _ _ _ h => h) (Or.inl ⟨by rfl, ?_⟩) (by assumption) ?_
          rotate_left
          (focus (intro w hSw; (try dsimp only at hSw); go_simp; (try with_reducible rfl)))
          (try simp only [Act.put, List.getElem_toArray, List.getElem_cons_succ, List.getElem_cons_zero, List.setIfInBounds_toArray, List.set_cons_zero, List.set_cons_succ])
          refine wpAnyH_take (i := 9) (v := ?_) rfl (by kernel_rfl) (by kernel_rfl) (by kernel_rfl) (fun _ _ _ h => h) (Or.inl ⟨by rfl, ?_⟩) (by assumption) ?_
          rotate_left
          (focus (intro w hSw; (try dsimp only at hSw); go_simp; (try with_reducible rfl)))
          (try simp only [Act.put, List.getElem_toArray, List.getElem_cons_succ, List.getElem_cons_zero, List.setIfInBounds_toArray, List.set_cons_zero, List.set_cons_succ])
          refine wpAnyH_take (i := 11) (v := ?_) rfl (by kernel_rfl) (by kernel_rfl) (by kernel_rfl) (fun _ _ _ h => h) (Or.inl ⟨by rfl, ?_⟩) (by assumption) ?_
          rotate_left
          (focus (intro w hSw; (try dsimp only at hSw); go_simp; (try with_reducible rfl)))
          (try simp only [Act.put, List.getElem_toArray, List.getElem_cons_succ, List.getElem_cons_zero, List.setIfInBounds_toArray, List.set_cons_zero, List.set_cons_succ])
          refine wpAnyH_ready (rs := [10]) (by kernel_rfl) (by simp) ?_
          refine AllReadyH.cons rfl (fun K hK => ?_) AllReadyH.nil
          go_simp
          go_at_call 70
          (with_reducible refine (sdark_any a _).mono ?_)
          rintro e w3 ho
          rw [h3] at ho
          obtain ⟨rfl, hb⟩ : e = .returned (.bool false) ∧ Below _ _ _ := (id ho)
          clear ho
          have HB := Lib.hid (show Below w.heap.size w w3 from HB.out.trans ((show Below _ _ _ from (Below.refl _ _)).trans (hb.mono (by first | omega | (simp <;> omega)))))
          have Ha : Hid (w3.rangeAt (w.heap.size) 0 [.int .i64 a.a.re, .int .i64 a.a.im, .int .i64 a.a.den, .int .i64 a.b.re, .int .i64 a.b.im, .int .i64 a.b.den, .int .i64 a.c.re, .int .i64 a.c.im, .int .i64 a.c.den, .int .i64 a.d.re, .int .i64 a.d.im, .int .i64 a.d.den]) := rangeAt_below Ha.out hb (by first | omega | (simp; done) | (simp <;> omega))
          have Hb : Hid (w3.rangeAt (w.heap.size + 1) 0 [.int .i64 b.a.re, .int .i64 b.a.im, .int .i64 b.a.den, .int .i64 b.b.re, .int .i64 b.b.im, .int .i64 b.b.den, .int .i64 b.c.re, .int .i64 b.c.im, .int .i64 b.c.den, .int .i64 b.d.re, .int .i64 b.d.im, .int .i64 b.d.den]) := rangeAt_below Hb.out hb (by first | omega | (simp; done) | (simp <;> omega))
          have hz3 := hb.size
          (try simp at hz3)
          clear hb
          have nA0 : w.heap.size < w3.heap.size := by omega
          have nB0 : ¬ w.heap.size = w3.heap.size := by omega
          have nC0 : ¬ w3.heap.size = w.heap.size := by omega
          have nA1 : w.heap.size + 1 < w3.heap.size := by omega
          have nB1 : ¬ w.heap.size + 1 = w3.heap.size := by omega
          have nC1 : ¬ w3.heap.size = w.heap.size + 1 := by omega
          refine hK.out _ _ (show _ from ⟨(cellsM Ha.out), (cellsM Hb.out)⟩) (fun hHeld => ?_)
          clear hK K
          (try simp only [Act.put, List.getElem_toArray, List.getElem_cons_succ, List.getElem_cons_zero, List.setIfInBounds_toArray, List.set_cons_zero, List.set_cons_succ])
          refine wpAnyH_ready (rs := [12]) (by kernel_rfl) (by simp) ?_
          refine AllReadyH.cons rfl (fun K hK => ?_) AllReadyH.nil
          go_simp
          go_at_call 70
          (with_reducible refine (sdark_any b _).mono ?_)
          rintro e w4 ho
          rw [h4] at ho
          obtain ⟨rfl, hb⟩ : e = .returned (.bool true) ∧ Below _ _ _ := (id ho)
          clear ho
          have HB := Lib.hid (show Below w.heap.size w w4 from HB.out.trans ((show Below _ _ _ from (Below.refl _ _)).trans (hb.mono (by first | omega | (simp <;> omega)))))
          have Ha : Hid (w4.rangeAt (w.heap.size) 0 [.int .i64 a.a.re, .int .i64 a.a.im, .int .i64 a.a.den, .int .i64 a.b.re, .int .i64 a.b.im, .int .i64 a.b.den, .int .i64 a.c.re, .int .i64 a.c.im, .int .i64 a.c.den, .int .i64 a.d.re, .int .i64 a.d.im, .int .i64 a.d.den]) := rangeAt_below Ha.out hb (by first | omega | (simp; done) | (simp <;> omega))
          have Hb : Hid (w4.rangeAt (w.heap.size + 1) 0 [.int .i64 b.a.re, .int .i64 b.a.im, .int .i64 b.a.den, .int .i64 b.b.re, .int .i64 b.b.im, .int .i64 b.b.den, .int .i64 b.c.re, .int .i64 b.c.im, .int .i64 b.c.den, .int .i64 b.d.re, .int .i64 b.d.im, .int .i64 b.d.den]) := rangeAt_below Hb.out hb (by first | omega | (simp; done) | (simp <;> omega))
          have hz4 := hb.size
          (try simp at hz4)
          clear hb
          have nA0 : w.heap.size < w4.heap.size := by omega
          have nB0 : ¬ w.heap.size = w4.heap.size := by omega
          have nC0 : ¬ w4.heap.size = w.heap.size := by omega
          have nA1 : w.heap.size + 1 < w4.heap.size := by omega
          have nB1 : ¬ w.heap.size + 1 = w4.heap.size := by omega
          have nC1 : ¬ w4.heap.size = w.heap.size + 1 := by omega
          refine hK.out _ _ (show _ from ⟨(cellsM Ha.out), (cellsM Hb.out)⟩) (fun hHeld => ?_)
          clear hK K
          (try simp only [Act.put, List.getElem_toArray, List.getElem_cons_succ, List.getElem_cons_zero, List.setIfInBounds_toArray, List.set_cons_zero, List.set_cons_succ])
          refine wpAnyH_take (i := 13) (v := ?_) rfl (by kernel_rfl) (by kernel_rfl) (by kernel_rfl) (fun _ _ _ h => h) (Or.inl ⟨by rfl, ?_⟩) (by assumption) ?_
          rotate_left
          (focus (intro w hSw; (try dsimp only at hSw); go_simp; (try with_reducible rfl)))
          (try simp only [Act.put, List.getElem_toArray, List.getElem_cons_succ, List.getElem_cons_zero, List.setIfInBounds_toArray, List.set_cons_zero, List.set_cons_succ])
          refine wpAnyH_take (i := 14) (v := ?_) rfl (by kernel_rfl) (by kernel_rfl) (by kernel_rfl) (fun _ _ _ h => h) (Or.inl ⟨by rfl, ?_⟩) (by assumption) ?_
          rotate_left
          (focus (intro w hSw; (try dsimp only at hSw); go_simp; (try with_reducible rfl)))
          (try simp only [Act.put, List.getElem_toArray, List.getElem_cons_succ, List.getElem_cons_zero, List.setIfInBounds_toArray, List.set_cons_zero, List.set_cons_succ])
          refine wpAnyH_done (by kernel_rfl) ?_ _
          clear hHeld
          go_wp2_with fail
          go_ret
          exact ⟨by rw [HG.out]; rfl, (by (repeat' first | (with_reducible exact HB.out) | with_reducible refine setCells_below _ _ _ ?_ (by first | omega | (simp <;> omega)) | with_reducible refine Below.setCell ?_ (by show _ ≤ _; first | omega | (simp <;> omega) | simp) _ | with_reducible refine Below.alloc ?_ (by first | omega | (simp <;> omega)) _ | with_reducible apply Below.drew | with_reducible refine below_drewN ?_ _))⟩
      · skip
        cases h4 : dkM b
        · skip
          have HG : Hid (gMAl a b = false) := by show _ = _; unfold gMAl; rw [h3, h4]; simp
          have HB : Hid (Below w.heap.size w w) := Below.refl _ _
          go_enter Tryd.func21, Tryd.ntmps21
          go_wp2_with fail
          refine wp_region_held_drew (S := (fun w' => (w'.cell? ⟨w.heap.size, 0, none⟩ = some (.int .i64 a.a.re) ∧ w'.cell? ⟨w.heap.size, 1, none⟩ = some (.int .i64 a.a.im) ∧ w'.cell? ⟨w.heap.size, 2, none⟩ = some (.int .i64 a.a.den) ∧ w'.cell? ⟨w.heap.size, 3, none⟩ = some (.int .i64 a.b.re) ∧ w'.cell? ⟨w.heap.size, 4, none⟩ = some (.int .i64 a.b.im) ∧ w'.cell? ⟨w.heap.size, 5, none⟩ = some (.int .i64 a.b.den) ∧ w'.cell? ⟨w.heap.size, 6, none⟩ = some (.int .i64 a.c.re) ∧ w'.cell? ⟨w.heap.size, 7, none⟩ = some (.int .i64 a.c.im) ∧ w'.cell? ⟨w.heap.size, 8, none⟩ = some (.int .i64 a.c.den) ∧ w'.cell? ⟨w.heap.size, 9, none⟩ = some (.int .i64 a.d.re) ∧ w'.cell? ⟨w.heap.size, 10, none⟩ = some (.int .i64 a.d.im) ∧ w'.cell? ⟨w.heap.size, 11, none⟩ = some (.int .i64 a.d.den)) ∧ (w'.cell? ⟨w.heap.size + 1, 0, none⟩ = some (.int .i64 b.a.re) ∧ w'.cell? ⟨w.heap.size + 1, 1, none⟩ = some (.int .i64 b.a.im) ∧ w'.cell? ⟨w.heap.size + 1, 2, none⟩ = some (.int .i64 b.a.den) ∧ w'.cell? ⟨w.heap.size + 1, 3, none⟩ = some (.int .i64 b.b.re) ∧ w'.cell? ⟨w.heap.size + 1, 4, none⟩ = some (.int .i64 b.b.im) ∧ w'.cell? ⟨w.heap.size + 1, 5, none⟩ = some (.int .i64 b.b.den) ∧ w'.cell? ⟨w.heap.size + 1, 6, none⟩ = some (.int .i64 b.c.re) ∧ w'.cell? ⟨w.heap.size + 1, 7, none⟩ = some (.int .i64 b.c.im) ∧ w'.cell? ⟨w.heap.size + 1, 8, none⟩ = some (.int .i64 b.c.den) ∧ w'.cell? ⟨w.heap.size + 1, 9, none⟩ = some (.int .i64 b.d.re) ∧ w'.cell? ⟨w.heap.size + 1, 10, none⟩ = some (.int .i64 b.d.im) ∧ w'.cell? ⟨w.heap.size + 1, 11, none⟩ = some (.int .i64 b.d.den)))) (by kernel_rfl) (show _ from ⟨(cellsM (show World.rangeAt (World.drew ((w.alloc (.cells #[.int .i64 a.a.re, .int .i64 a.a.im, .int .i64 a.a.den, .int .i64 a.b.re, .int .i64 a.b.im, .int .i64 a.b.den, .int .i64 a.c.re, .int .i64 a.c.im, .int .i64 a.c.den, .int .i64 a.d.re, .int .i64 a.d.im, .int .i64 a.d.den] 41)).alloc (.cells #[.int .i64 b.a.re, .int .i64 b.a.im, .int .i64 b.a.den, .int .i64 b.b.re, .int .i64 b.b.im, .int .i64 b.b.den, .int .i64 b.c.re, .int .i64 b.c.im, .int .i64 b.c.den, .int .i64 b.d.re, .int .i64 b.d.im, .int .i64 b.d.den] 41))) (w.heap.size) 0 [.int .i64 a.a.re, .int .i64 a.a.im, .int .i64 a.a.den, .int .i64 a.b.re, .int .i64 a.b.im, .int .i64 a.b.den, .int .i64 a.c.re, .int .i64 a.c.im, .int .i64 a.c.den, .int .i64 a.d.re, .int .i64 a.d.im, .int .i64 a.d.den] from (World.rangeAt_alloc (rangeAt_new _ _ _) _))), (cellsM (show World.rangeAt (World.drew ((w.alloc (.cells #[.int .i64 a.a.re, .int .i64 a.a.im, .int .i64 a.a.den, .int .i64 a.b.re, .int .i64 a.b.im, .int .i64 a.b.den, .int .i64 a.c.re, .int .i64 a.c.im, .int .i64 a.c.den, .int .i64 a.d.re, .int .i64 a.d.im, .int .i64 a.d.den] 41)).alloc (.cells #[.int .i64 b.a.re, .int .i64 b.a.im, .int .i64 b.a.den, .int .i64 b.b.re, .int .i64 b.b.im, .int .i64 b.b.den, .int .i64 b.c.re, .int .i64 b.c.im, .int .i64 b.c.den, .int .i64 b.d.re, .int .i64 b.d.im, .int .i64 b.d.den] 41))) (w.heap.size + 1) 0 [.int .i64 b.a.re, .int .i64 b.a.im, .int .i64 b.a.den, .int .i64 b.b.re, .int .i64 b.b.im, .int .i64 b.b.den, .int .i64 b.c.re, .int .i64 b.c.im, .int .i64 b.c.den, .int .i64 b.d.re, .int .i64 b.d.im, .int .i64 b.d.den] from (rangeAt_nw (by simp))))⟩) (fun hHeld => ?_)
          refine wpAnyH_take (i := 0) (v := ?_) rfl (by kernel_rfl) (by kernel_rfl) (by kernel_rfl) (fun _ _ _ h => h) (Or.inl ⟨by rfl, ?_⟩) (by assumption) ?_
          rotate_left
          (focus (intro w hSw; (try dsimp only at hSw); go_simp; (try with_reducible rfl)))
          (try simp only [Act.put, List.getElem_toArray, List.getElem_cons_zero, List.setIfInBounds_toArray, List.set_cons_zero, List.set_cons_succ])
          refine wpAnyH_ready (rs := [1]) (by kernel_rfl) (by simp) ?_
          refine AllReadyH.cons rfl (fun K hK => ?_) AllReadyH.nil
          go_simp
          go_at_call 69
          (with_reducible refine (smatvalid_any a _).mono ?_)
          rintro e w1 ho
          rw [h1] at ho
          obtain ⟨rfl, hb⟩ : e = .returned (.bool true) ∧ Below _ _ _ := (id ho)
          clear ho
          have HB := Lib.hid (show Below w.heap.size w w1 from HB.out.trans ((show Below _ _ _ from ((((Below.refl _ _).alloc (by first | omega | (simp; done) | (simp <;> omega)) _).alloc (by first | omega | (simp; done) | (simp <;> omega)) _).drew)).trans (hb.mono (by first | omega | (simp <;> omega)))))
          have Ha : Hid (w1.rangeAt (w.heap.size) 0 [.int .i64 a.a.re, .int .i64 a.a.im, .int .i64 a.a.den, .int .i64 a.b.re, .int .i64 a.b.im, .int .i64 a.b.den, .int .i64 a.c.re, .int .i64 a.c.im, .int .i64 a.c.den, .int .i64 a.d.re, .int .i64 a.d.im, .int .i64 a.d.den]) := rangeAt_below (show World.rangeAt (World.drew ((w.alloc (.cells #[.int .i64 a.a.re, .int .i64 a.a.im, .int .i64 a.a.den, .int .i64 a.b.re, .int .i64 a.b.im, .int .i64 a.b.den, .int .i64 a.c.re, .int .i64 a.c.im, .int .i64 a.c.den, .int .i64 a.d.re, .int .i64 a.d.im, .int .i64 a.d.den] 41)).alloc (.cells #[.int .i64 b.a.re, .int .i64 b.a.im, .int .i64 b.a.den, .int .i64 b.b.re, .int .i64 b.b.im, .int .i64 b.b.den, .int .i64 b.c.re, .int .i64 b.c.im, .int .i64 b.c.den, .int .i64 b.d.re, .int .i64 b.d.im, .int .i64 b.d.den] 41))) (w.heap.size) 0 [.int .i64 a.a.re, .int .i64 a.a.im, .int .i64 a.a.den, .int .i64 a.b.re, .int .i64 a.b.im, .int .i64 a.b.den, .int .i64 a.c.re, .int .i64 a.c.im, .int .i64 a.c.den, .int .i64 a.d.re, .int .i64 a.d.im, .int .i64 a.d.den] from (World.rangeAt_alloc (rangeAt_new _ _ _) _)) hb (by first | omega | (simp; done) | (simp <;> omega))
          have Hb : Hid (w1.rangeAt (w.heap.size + 1) 0 [.int .i64 b.a.re, .int .i64 b.a.im, .int .i64 b.a.den, .int .i64 b.b.re, .int .i64 b.b.im, .int .i64 b.b.den, .int .i64 b.c.re, .int .i64 b.c.im, .int .i64 b.c.den, .int .i64 b.d.re, .int .i64 b.d.im, .int .i64 b.d.den]) := rangeAt_below (show World.rangeAt (World.drew ((w.alloc (.cells #[.int .i64 a.a.re, .int .i64 a.a.im, .int .i64 a.a.den, .int .i64 a.b.re, .int .i64 a.b.im, .int .i64 a.b.den, .int .i64 a.c.re, .int .i64 a.c.im, .int .i64 a.c.den, .int .i64 a.d.re, .int .i64 a.d.im, .int .i64 a.d.den] 41)).alloc (.cells #[.int .i64 b.a.re, .int .i64 b.a.im, .int .i64 b.a.den, .int .i64 b.b.re, .int .i64 b.b.im, .int .i64 b.b.den, .int .i64 b.c.re, .int .i64 b.c.im, .int .i64 b.c.den, .int .i64 b.d.re, .int .i64 b.d.im, .int .i64 b.d.den] 41))) (w.heap.size + 1) 0 [.int .i64 b.a.re, .int .i64 b.a.im, .int .i64 b.a.den, .int .i64 b.b.re, .int .i64 b.b.im, .int .i64 b.b.den, .int .i64 b.c.re, .int .i64 b.c.im, .int .i64 b.c.den, .int .i64 b.d.re, .int .i64 b.d.im, .int .i64 b.d.den] from (rangeAt_nw (by simp))) hb (by first | omega | (simp; done) | (simp <;> omega))
          have hz1 := hb.size
          (try simp at hz1)
          clear hb
          have nA0 : w.heap.size < w1.heap.size := by omega
          have nB0 : ¬ w.heap.size = w1.heap.size := by omega
          have nC0 : ¬ w1.heap.size = w.heap.size := by omega
          have nA1 : w.heap.size + 1 < w1.heap.size := by omega
          have nB1 : ¬ w.heap.size + 1 = w1.heap.size := by omega
          have nC1 : ¬ w1.heap.size = w.heap.size + 1 := by omega
          refine hK.out _ _ (show _ from ⟨(cellsM Ha.out), (cellsM Hb.out)⟩) (fun hHeld => ?_)
          clear hK K
          (try simp only [Act.put, List.getElem_toArray, List.getElem_cons_succ, List.getElem_cons_zero, List.setIfInBounds_toArray, List.set_cons_zero, List.set_cons_succ])
          refine wpAnyH_take (i := 2) (v := ?_) rfl (by kernel_rfl) (by kernel_rfl) (by kernel_rfl) (fun _ _ _ h => h) (Or.inl ⟨by rfl, ?_⟩) (by assumption) ?_
          rotate_left
          (focus (intro w hSw; (try dsimp only at hSw); go_simp; (try with_reducible rfl)))
          (try simp only [Act.put, List.getElem_toArray, List.getElem_cons_succ, List.getElem_cons_zero, List.setIfInBounds_toArray, List.set_cons_zero, List.set_cons_succ])
          refine wpAnyH_take (i := 3) (v := ?_) rfl (by kernel_rfl) (by kernel_rfl) (by kernel_rfl) (fun _ _ _ h => h) (Or.inl ⟨by rfl, ?_⟩) (by assumption) ?_
          rotate_left
          (focus (intro w hSw; (try dsimp only at hSw); go_simp; (try with_reducible rfl)))
          (try simp only [Act.put, List.getElem_toArray, List.getElem_cons_succ, List.getElem_cons_zero, List.setIfInBounds_toArray, List.set_cons_zero, List.set_cons_succ])
          refine wpAnyH_take (i := 4) (v := ?_) rfl (by kernel_rfl) (by kernel_rfl) (by kernel_rfl) (fun _ _ _ h => h) (Or.inl ⟨by rfl, ?_⟩) (by assumption) ?_
          rotate_left
          (focus (intro w hSw; (try dsimp only at hSw); go_simp; (try with_reducible rfl)))
          (try simp only [Act.put, List.getElem_toArray, List.getElem_cons_succ, List.getElem_cons_zero, List.setIfInBounds_toArray, List.set_cons_zero, List.set_cons_succ])
          refine wpAnyH_ready (rs := [5]) (by kernel_rfl) (by simp) ?_
          refine AllReadyH.cons rfl (fun K hK => ?_) AllReadyH.nil
          go_simp
          go_at_call 69
          (with_reducible refine (smatvalid_any b _).mono ?_)
          rintro e w2 ho
          rw [h2] at ho
          obtain ⟨rfl, hb⟩ : e = .returned (.bool true) ∧ Below _ _ _ := (id ho)
          clear ho
          have HB := Lib.hid (show Below w.heap.size w w2 from HB.out.trans ((show Below _ _ _ from (Below.refl _ _)).trans (hb.mono (by first | omega | (simp <;> omega)))))
          have Ha : Hid (w2.rangeAt (w.heap.size) 0 [.int .i64 a.a.re, .int .i64 a.a.im, .int .i64 a.a.den, .int .i64 a.b.re, .int .i64 a.b.im, .int .i64 a.b.den, .int .i64 a.c.re, .int .i64 a.c.im, .int .i64 a.c.den, .int .i64 a.d.re, .int .i64 a.d.im, .int .i64 a.d.den]) := rangeAt_below Ha.out hb (by first | omega | (simp; done) | (simp <;> omega))
          have Hb : Hid (w2.rangeAt (w.heap.size + 1) 0 [.int .i64 b.a.re, .int .i64 b.a.im, .int .i64 b.a.den, .int .i64 b.b.re, .int .i64 b.b.im, .int .i64 b.b.den, .int .i64 b.c.re, .int .i64 b.c.im, .int .i64 b.c.den, .int .i64 b.d.re, .int .i64 b.d.im, .int .i64 b.d.den]) := rangeAt_below Hb.out hb (by first | omega | (simp; done) | (simp <;> omega))
          have hz2 := hb.size
          (try simp at hz2)
          clear hb
          have nA0 : w.heap.size < w2.heap.size := by omega
          have nB0 : ¬ w.heap.size = w2.heap.size := by omega
          have nC0 : ¬ w2.heap.size = w.heap.size := by omega
          have nA1 : w.heap.size + 1 < w2.heap.size := by omega
          have nB1 : ¬ w.heap.size + 1 = w2.heap.size := by omega
          have nC1 : ¬ w2.heap.size = w.heap.size + 1 := by omega
          refine hK.out _ _ (show _ from ⟨(cellsM Ha.out), (cellsM Hb.out)⟩) (fun hHeld => ?_)
          clear hK K
          (try simp only [Act.put, List.getElem_toArray, List.getElem_cons_succ, List.getElem_cons_zero, List.setIfInBounds_toArray, List.set_cons_zero, List.set_cons_succ])
          refine wpAnyH_take (i := 6) (v := ?_) rfl (by kernel_rfl) (by kernel_rfl) (by kernel_rfl) (fun _ _ _ h => h) (Or.inl ⟨by rfl, ?_⟩) (by assumption) ?_
          rotate_left
          (focus (intro w hSw; (try dsimp only at hSw); go_simp; (try with_reducible rfl)))
          (try simp only [Act.put, List.getElem_toArray, List.getElem_cons_succ, List.getElem_cons_zero, List.setIfInBounds_toArray, List.set_cons_zero, List.set_cons_succ])
          refine wpAnyH_take (i := 7) (v := ?_) rfl (by kernel_rfl) (by kernel_rfl) (by kernel_rfl) (fun _ _ _ h => h) (Or.inl ⟨by rfl, ?_⟩) (by assumption) ?_
          rotate_left
          (focus (intro w hSw; (try dsimp only at hSw); go_simp; (try with_reducible rfl)))
          (try simp only [Act.put, List.getElem_toArray, List.getElem_cons_succ, List.getElem_cons_zero, List.setIfInBounds_toArray, List.set_cons_zero, List.set_cons_succ])
          refine wpAnyH_take (i := 8) (v := ?_) rfl (by kernel_rfl) (by kernel_rfl) (by kernel_rfl) (fun _ _ _ h => h) (Or.inl ⟨by rfl, ?_⟩) (by assumption) ?_
          rotate_left
          (focus (intro w hSw; (try dsimp only at hSw); go_simp; (try with_reducible rfl)))
          (try simp only [Act.put, List.getElem_toArray, List.getElem_cons_succ, List.getElem_cons_zero, List.setIfInBounds_toArray, List.set_cons_zero, List.set_cons_succ])
          refine wpAnyH_take (i := 9) (v := ?_) rfl (by kernel_rfl) (by kernel_rfl) (by kernel_rfl) (fun _ _ _ h => h) (Or.inl ⟨by rfl, ?_⟩) (by assumption) ?_
          rotate_left
          (focus (intro w hSw; (try dsimp only at hSw); go_simp; (try with_reducible rfl)))
          (try simp only [Act.put, List.getElem_toArray, List.getElem_cons_succ, List.getElem_cons_zero, List.setIfInBounds_toArray, List.set_cons_zero, List.set_cons_succ])
          refine wpAnyH_take (i := 11) (v := ?_) rfl (by kernel_rfl) (by kernel_rfl) (by kernel_rfl) (fun _ _ _ h => h) (Or.inl ⟨by rfl, ?_⟩) (by assumption) ?_
          rotate_left
          (focus (intro w hSw; (try dsimp only at hSw); go_simp; (try with_reducible rfl)))
          (try simp only [Act.put, List.getElem_toArray, List.getElem_cons_succ, List.getElem_cons_zero, List.setIfInBounds_toArray, List.set_cons_zero, List.set_cons_succ])
          refine wpAnyH_ready (rs := [10]) (by kernel_rfl) (by simp) ?_
          refine AllReadyH.cons rfl (fun K hK => ?_) AllReadyH.nil
          go_simp
          go_at_call 70
          (with_reducible refine (sdark_any a _).mono ?_)
          rintro e w3 ho
          rw [h3] at ho
          obtain ⟨rfl, hb⟩ : e = .returned (.bool true) ∧ Below _ _ _ := (id ho)
          clear ho
          have HB := Lib.hid (show Below w.heap.size w w3 from HB.out.trans ((show Below _ _ _ from (Below.refl _ _)).trans (hb.mono (by first | omega | (simp <;> omega)))))
          have Ha : Hid (w3.rangeAt (w.heap.size) 0 [.int .i64 a.a.re, .int .i64 a.a.im, .int .i64 a.a.den, .int .i64 a.b.re, .int .i64 a.b.im, .int .i64 a.b.den, .int .i64 a.c.re, .int .i64 a.c.im, .int .i64 a.c.den, .int .i64 a.d.re, .int .i64 a.d.im, .int .i64 a.d.den]) := rangeAt_below Ha.out hb (by first | omega | (simp; done) | (simp <;> omega))
          have Hb : Hid (w3.rangeAt (w.heap.size + 1) 0 [.int .i64 b.a.re, .int .i64 b.a.im, .int .i64 b.a.den, .int .i64 b.b.re, .int .i64 b.b.im, .int .i64 b.b.den, .int .i64 b.c.re, .int .i64 b.c.im, .int .i64 b.c.den, .int .i64 b.d.re, .int .i64 b.d.im, .int .i64 b.d.den]) := rangeAt_below Hb.out hb (by first | omega | (simp; done) | (simp <;> omega))
          have hz3 := hb.size
          (try simp at hz3)
          clear hb
          have nA0 : w.heap.size < w3.heap.size := by omega
          have nB0 : ¬ w.heap.size = w3.heap.size := by omega
          have nC0 : ¬ w3.heap.size = w.heap.size := by omega
          have nA1 : w.heap.size + 1 < w3.heap.size := by omega
          have nB1 : ¬ w.heap.size + 1 = w3.heap.size := by omega
          have nC1 : ¬ w3.heap.size = w.heap.size + 1 := by omega
          refine hK.out _ _ (show _ from ⟨(cellsM Ha.out), (cellsM Hb.out)⟩) (fun hHeld => ?_)
          clear hK K
          (try simp only [Act.put, List.getElem_toArray, List.getElem_cons_succ, List.getElem_cons_zero, List.setIfInBounds_toArray, List.set_cons_zero, List.set_cons_succ])
          refine wpAnyH_ready (rs := [12]) (by kernel_rfl) (by simp) ?_
          refine AllReadyH.cons rfl (fun K hK => ?_) AllReadyH.nil
          go_simp
          go_at_call 70
          (with_reducible refine (sdark_any b _).mono ?_)
          rintro e w4 ho
          rw [h4] at ho
          obtain ⟨rfl, hb⟩ : e = .returned (.bool false) ∧ Below _ _ _ := (id ho)
          clear ho
          have HB := Lib.hid (show Below w.heap.size w w4 from HB.out.trans ((show Below _ _ _ from (Below.refl _ _)).trans (hb.mono (by first | omega | (simp <;> omega)))))
          have Ha : Hid (w4.rangeAt (w.heap.size) 0 [.int .i64 a.a.re, .int .i64 a.a.im, .int .i64 a.a.den, .int .i64 a.b.re, .int .i64 a.b.im, .int .i64 a.b.den, .int .i64 a.c.re, .int .i64 a.c.im, .int .i64 a.c.den, .int .i64 a.d.re, .int .i64 a.d.im, .int .i64 a.d.den]) := rangeAt_below Ha.out hb (by first | omega | (simp; done) | (simp <;> omega))
          have Hb : Hid (w4.rangeAt (w.heap.size + 1) 0 [.int .i64 b.a.re, .int .i64 b.a.im, .int .i64 b.a.den, .int .i64 b.b.re, .int .i64 b.b.im, .int .i64 b.b.den, .int .i64 b.c.re, .int .i64 b.c.im, .int .i64 b.c.den, .int .i64 b.d.re, .int .i64 b.d.im, .int .i64 b.d.den]) := rangeAt_below Hb.out hb (by first | omega | (simp; done) | (simp <;> omega))
          have hz4 := hb.size
          (try simp at hz4)
          clear hb
          have nA0 : w.heap.size < w4.heap.size := by omega
          have nB0 : ¬ w.heap.size = w4.heap.size := by omega
          have nC0 : ¬ w4.heap.size = w.heap.size := by omega
          have nA1 : w.heap.size + 1 < w4.heap.size := by omega
          have nB1 : ¬ w.heap.size + 1 = w4.heap.size := by omega
          have nC1 : ¬ w4.heap.size = w.heap.size + 1 := by omega
          refine hK.out _ _ (show _ from ⟨(cellsM Ha.out), (cellsM Hb.out)⟩) (fun hHeld => ?_)
          clear hK K
          (try simp only [Act.put, List.getElem_toArray, List.getElem_cons_succ, List.getElem_cons_zero, List.setIfInBounds_toArray, List.set_cons_zero, List.set_cons_succ])
          refine wpAnyH_take (i := 13) (v := ?_) rfl (by kernel_rfl) (by kernel_rfl) (by kernel_rfl) (fun _ _ _ h => h) (Or.inl ⟨by rfl, ?_⟩) (by assumption) ?_
          rotate_left
          (focus (intro w hSw; (try dsimp only at hSw); go_simp; (try with_reducible rfl)))
          (try simp only [Act.put, List.getElem_toArray, List.getElem_cons_succ, List.getElem_cons_zero, List.setIfInBounds_toArray, List.set_cons_zero, List.set_cons_succ])
          refine wpAnyH_take (i := 14) (v := ?_) rfl (by kernel_rfl) (by kernel_rfl) (by kernel_rfl) (fun _ _ _ h => h) (Or.inl ⟨by rfl, ?_⟩) (by assumption) ?_
          rotate_left
          (focus (intro w hSw; (try dsimp only at hSw); go_simp; (try with_reducible rfl)))
          (try simp only [Act.put, List.getElem_toArray, List.getElem_cons_succ, List.getElem_cons_zero, List.setIfInBounds_toArray, List.set_cons_zero, List.set_cons_succ])
          refine wpAnyH_done (by kernel_rfl) ?_ _
          clear hHeld
          go_wp2_with fail
          go_ret
          exact ⟨by rw [HG.out]; rfl, (by (repeat' first | (with_reducible exact HB.out) | with_reducible refine setCells_below _ _ _ ?_ (by first | omega | (simp <;> omega)) | with_reducible refine Below.setCell ?_ (by show _ ≤ _; first | omega | (simp <;> omega) | simp) _ | with_reducible refine Below.alloc ?_ (by first | omega | (simp <;> omega)) _ | with_reducible apply Below.drew | with_reducible refine below_drewN ?_ _))⟩
        · skip
          have HG : Hid (gMAl a b = alB a b) := by show _ = _; unfold gMAl; rw [h1, h2, h3, h4]; simp
          have HB : Hid (Below w.heap.size w w) := Below.refl _ _
          go_enter Tryd.func21, Tryd.ntmps21
          go_wp2_with fail
          refine wp_region_held_drew (S := (fun w' => (w'.cell? ⟨w.heap.size, 0, none⟩ = some (.int .i64 a.a.re) ∧ w'.cell? ⟨w.heap.size, 1, none⟩ = some (.int .i64 a.a.im) ∧ w'.cell? ⟨w.heap.size, 2, none⟩ = some (.int .i64 a.a.den) ∧ w'.cell? ⟨w.heap.size, 3, none⟩ = some (.int .i64 a.b.re) ∧ w'.cell? ⟨w.heap.size, 4, none⟩ = some (.int .i64 a.b.im) ∧ w'.cell? ⟨w.heap.size, 5, none⟩ = some (.int .i64 a.b.den) ∧ w'.cell? ⟨w.heap.size, 6, none⟩ = some (.int .i64 a.c.re) ∧ w'.cell? ⟨w.heap.size, 7, none⟩ = some (.int .i64 a.c.im) ∧ w'.cell? ⟨w.heap.size, 8, none⟩ = some (.int .i64 a.c.den) ∧ w'.cell? ⟨w.heap.size, 9, none⟩ = some (.int .i64 a.d.re) ∧ w'.cell? ⟨w.heap.size, 10, none⟩ = some (.int .i64 a.d.im) ∧ w'.cell? ⟨w.heap.size, 11, none⟩ = some (.int .i64 a.d.den)) ∧ (w'.cell? ⟨w.heap.size + 1, 0, none⟩ = some (.int .i64 b.a.re) ∧ w'.cell? ⟨w.heap.size + 1, 1, none⟩ = some (.int .i64 b.a.im) ∧ w'.cell? ⟨w.heap.size + 1, 2, none⟩ = some (.int .i64 b.a.den) ∧ w'.cell? ⟨w.heap.size + 1, 3, none⟩ = some (.int .i64 b.b.re) ∧ w'.cell? ⟨w.heap.size + 1, 4, none⟩ = some (.int .i64 b.b.im) ∧ w'.cell? ⟨w.heap.size + 1, 5, none⟩ = some (.int .i64 b.b.den) ∧ w'.cell? ⟨w.heap.size + 1, 6, none⟩ = some (.int .i64 b.c.re) ∧ w'.cell? ⟨w.heap.size + 1, 7, none⟩ = some (.int .i64 b.c.im) ∧ w'.cell? ⟨w.heap.size + 1, 8, none⟩ = some (.int .i64 b.c.den) ∧ w'.cell? ⟨w.heap.size + 1, 9, none⟩ = some (.int .i64 b.d.re) ∧ w'.cell? ⟨w.heap.size + 1, 10, none⟩ = some (.int .i64 b.d.im) ∧ w'.cell? ⟨w.heap.size + 1, 11, none⟩ = some (.int .i64 b.d.den)))) (by kernel_rfl) (show _ from ⟨(cellsM (show World.rangeAt (World.drew ((w.alloc (.cells #[.int .i64 a.a.re, .int .i64 a.a.im, .int .i64 a.a.den, .int .i64 a.b.re, .int .i64 a.b.im, .int .i64 a.b.den, .int .i64 a.c.re, .int .i64 a.c.im, .int .i64 a.c.den, .int .i64 a.d.re, .int .i64 a.d.im, .int .i64 a.d.den] 41)).alloc (.cells #[.int .i64 b.a.re, .int .i64 b.a.im, .int .i64 b.a.den, .int .i64 b.b.re, .int .i64 b.b.im, .int .i64 b.b.den, .int .i64 b.c.re, .int .i64 b.c.im, .int .i64 b.c.den, .int .i64 b.d.re, .int .i64 b.d.im, .int .i64 b.d.den] 41))) (w.heap.size) 0 [.int .i64 a.a.re, .int .i64 a.a.im, .int .i64 a.a.den, .int .i64 a.b.re, .int .i64 a.b.im, .int .i64 a.b.den, .int .i64 a.c.re, .int .i64 a.c.im, .int .i64 a.c.den, .int .i64 a.d.re, .int .i64 a.d.im, .int .i64 a.d.den] from (World.rangeAt_alloc (rangeAt_new _ _ _) _))), (cellsM (show World.rangeAt (World.drew ((w.alloc (.cells #[.int .i64 a.a.re, .int .i64 a.a.im, .int .i64 a.a.den, .int .i64 a.b.re, .int .i64 a.b.im, .int .i64 a.b.den, .int .i64 a.c.re, .int .i64 a.c.im, .int .i64 a.c.den, .int .i64 a.d.re, .int .i64 a.d.im, .int .i64 a.d.den] 41)).alloc (.cells #[.int .i64 b.a.re, .int .i64 b.a.im, .int .i64 b.a.den, .int .i64 b.b.re, .int .i64 b.b.im, .int .i64 b.b.den, .int .i64 b.c.re, .int .i64 b.c.im, .int .i64 b.c.den, .int .i64 b.d.re, .int .i64 b.d.im, .int .i64 b.d.den] 41))) (w.heap.size + 1) 0 [.int .i64 b.a.re, .int .i64 b.a.im, .int .i64 b.a.den, .int .i64 b.b.re, .int .i64 b.b.im, .int .i64 b.b.den, .int .i64 b.c.re, .int .i64 b.c.im, .int .i64 b.c.den, .int .i64 b.d.re, .int .i64 b.d.im, .int .i64 b.d.den] from (rangeAt_nw (by simp))))⟩) (fun hHeld => ?_)
          refine wpAnyH_take (i := 0) (v := ?_) rfl (by kernel_rfl) (by kernel_rfl) (by kernel_rfl) (fun _ _ _ h => h) (Or.inl ⟨by rfl, ?_⟩) (by assumption) ?_
          rotate_left
          (focus (intro w hSw; (try dsimp only at hSw); go_simp; (try with_reducible rfl)))
          (try simp only [Act.put, List.getElem_toArray, List.getElem_cons_zero, List.setIfInBounds_toArray, List.set_cons_zero, List.set_cons_succ])
          refine wpAnyH_ready (rs := [1]) (by kernel_rfl) (by simp) ?_
          refine AllReadyH.cons rfl (fun K hK => ?_) AllReadyH.nil
          go_simp
          go_at_call 69
          (with_reducible refine (smatvalid_any a _).mono ?_)
          rintro e w1 ho
          rw [h1] at ho
          obtain ⟨rfl, hb⟩ : e = .returned (.bool true) ∧ Below _ _ _ := (id ho)
          clear ho
          have HB := Lib.hid (show Below w.heap.size w w1 from HB.out.trans ((show Below _ _ _ from ((((Below.refl _ _).alloc (by first | omega | (simp; done) | (simp <;> omega)) _).alloc (by first | omega | (simp; done) | (simp <;> omega)) _).drew)).trans (hb.mono (by first | omega | (simp <;> omega)))))
          have Ha : Hid (w1.rangeAt (w.heap.size) 0 [.int .i64 a.a.re, .int .i64 a.a.im, .int .i64 a.a.den, .int .i64 a.b.re, .int .i64 a.b.im, .int .i64 a.b.den, .int .i64 a.c.re, .int .i64 a.c.im, .int .i64 a.c.den, .int .i64 a.d.re, .int .i64 a.d.im, .int .i64 a.d.den]) := rangeAt_below (show World.rangeAt (World.drew ((w.alloc (.cells #[.int .i64 a.a.re, .int .i64 a.a.im, .int .i64 a.a.den, .int .i64 a.b.re, .int .i64 a.b.im, .int .i64 a.b.den, .int .i64 a.c.re, .int .i64 a.c.im, .int .i64 a.c.den, .int .i64 a.d.re, .int .i64 a.d.im, .int .i64 a.d.den] 41)).alloc (.cells #[.int .i64 b.a.re, .int .i64 b.a.im, .int .i64 b.a.den, .int .i64 b.b.re, .int .i64 b.b.im, .int .i64 b.b.den, .int .i64 b.c.re, .int .i64 b.c.im, .int .i64 b.c.den, .int .i64 b.d.re, .int .i64 b.d.im, .int .i64 b.d.den] 41))) (w.heap.size) 0 [.int .i64 a.a.re, .int .i64 a.a.im, .int .i64 a.a.den, .int .i64 a.b.re, .int .i64 a.b.im, .int .i64 a.b.den, .int .i64 a.c.re, .int .i64 a.c.im, .int .i64 a.c.den, .int .i64 a.d.re, .int .i64 a.d.im, .int .i64 a.d.den] from (World.rangeAt_alloc (rangeAt_new _ _ _) _)) hb (by first | omega | (simp; done) | (simp <;> omega))
          have Hb : Hid (w1.rangeAt (w.heap.size + 1) 0 [.int .i64 b.a.re, .int .i64 b.a.im, .int .i64 b.a.den, .int .i64 b.b.re, .int .i64 b.b.im, .int .i64 b.b.den, .int .i64 b.c.re, .int .i64 b.c.im, .int .i64 b.c.den, .int .i64 b.d.re, .int .i64 b.d.im, .int .i64 b.d.den]) := rangeAt_below (show World.rangeAt (World.drew ((w.alloc (.cells #[.int .i64 a.a.re, .int .i64 a.a.im, .int .i64 a.a.den, .int .i64 a.b.re, .int .i64 a.b.im, .int .i64 a.b.den, .int .i64 a.c.re, .int .i64 a.c.im, .int .i64 a.c.den, .int .i64 a.d.re, .int .i64 a.d.im, .int .i64 a.d.den] 41)).alloc (.cells #[.int .i64 b.a.re, .int .i64 b.a.im, .int .i64 b.a.den, .int .i64 b.b.re, .int .i64 b.b.im, .int .i64 b.b.den, .int .i64 b.c.re, .int .i64 b.c.im, .int .i64 b.c.den, .int .i64 b.d.re, .int .i64 b.d.im, .int .i64 b.d.den] 41))) (w.heap.size + 1) 0 [.int .i64 b.a.re, .int .i64 b.a.im, .int .i64 b.a.den, .int .i64 b.b.re, .int .i64 b.b.im, .int .i64 b.b.den, .int .i64 b.c.re, .int .i64 b.c.im, .int .i64 b.c.den, .int .i64 b.d.re, .int .i64 b.d.im, .int .i64 b.d.den] from (rangeAt_nw (by simp))) hb (by first | omega | (simp; done) | (simp <;> omega))
          have hz1 := hb.size
          (try simp at hz1)
          clear hb
          have nA0 : w.heap.size < w1.heap.size := by omega
          have nB0 : ¬ w.heap.size = w1.heap.size := by omega
          have nC0 : ¬ w1.heap.size = w.heap.size := by omega
          have nA1 : w.heap.size + 1 < w1.heap.size := by omega
          have nB1 : ¬ w.heap.size + 1 = w1.heap.size := by omega
          have nC1 : ¬ w1.heap.size = w.heap.size + 1 := by omega
          refine hK.out _ _ (show _ from ⟨(cellsM Ha.out), (cellsM Hb.out)⟩) (fun hHeld => ?_)
          clear hK K
          (try simp only [Act.put, List.getElem_toArray, List.getElem_cons_succ, List.getElem_cons_zero, List.setIfInBounds_toArray, List.set_cons_zero, List.set_cons_succ])
          refine wpAnyH_take (i := 2) (v := ?_) rfl (by kernel_rfl) (by kernel_rfl) (by kernel_rfl) (fun _ _ _ h => h) (Or.inl ⟨by rfl, ?_⟩) (by assumption) ?_
          rotate_left
          (focus (intro w hSw; (try dsimp only at hSw); go_simp; (try with_reducible rfl)))
          (try simp only [Act.put, List.getElem_toArray, List.getElem_cons_succ, List.getElem_cons_zero, List.setIfInBounds_toArray, List.set_cons_zero, List.set_cons_succ])
          refine wpAnyH_take (i := 3) (v := ?_) rfl (by kernel_rfl) (by kernel_rfl) (by kernel_rfl) (fun _ _ _ h => h) (Or.inl ⟨by rfl, ?_⟩) (by assumption) ?_
          rotate_left
          (focus (intro w hSw; (try dsimp only at hSw); go_simp; (try with_reducible rfl)))
          (try simp only [Act.put, List.getElem_toArray, List.getElem_cons_succ, List.getElem_cons_zero, List.setIfInBounds_toArray, List.set_cons_zero, List.set_cons_succ])
          refine wpAnyH_take (i := 4) (v := ?_) rfl (by kernel_rfl) (by kernel_rfl) (by kernel_rfl) (fun _ _ _ h => h) (Or.inl ⟨by rfl, ?_⟩) (by assumption) ?_
          rotate_left
          (focus (intro w hSw; (try dsimp only at hSw); go_simp; (try with_reducible rfl)))
          (try simp only [Act.put, List.getElem_toArray, List.getElem_cons_succ, List.getElem_cons_zero, List.setIfInBounds_toArray, List.set_cons_zero, List.set_cons_succ])
          refine wpAnyH_ready (rs := [5]) (by kernel_rfl) (by simp) ?_
          refine AllReadyH.cons rfl (fun K hK => ?_) AllReadyH.nil
          go_simp
          go_at_call 69
          (with_reducible refine (smatvalid_any b _).mono ?_)
          rintro e w2 ho
          rw [h2] at ho
          obtain ⟨rfl, hb⟩ : e = .returned (.bool true) ∧ Below _ _ _ := (id ho)
          clear ho
          have HB := Lib.hid (show Below w.heap.size w w2 from HB.out.trans ((show Below _ _ _ from (Below.refl _ _)).trans (hb.mono (by first | omega | (simp <;> omega)))))
          have Ha : Hid (w2.rangeAt (w.heap.size) 0 [.int .i64 a.a.re, .int .i64 a.a.im, .int .i64 a.a.den, .int .i64 a.b.re, .int .i64 a.b.im, .int .i64 a.b.den, .int .i64 a.c.re, .int .i64 a.c.im, .int .i64 a.c.den, .int .i64 a.d.re, .int .i64 a.d.im, .int .i64 a.d.den]) := rangeAt_below Ha.out hb (by first | omega | (simp; done) | (simp <;> omega))
          have Hb : Hid (w2.rangeAt (w.heap.size + 1) 0 [.int .i64 b.a.re, .int .i64 b.a.im, .int .i64 b.a.den, .int .i64 b.b.re, .int .i64 b.b.im, .int .i64 b.b.den, .int .i64 b.c.re, .int .i64 b.c.im, .int .i64 b.c.den, .int .i64 b.d.re, .int .i64 b.d.im, .int .i64 b.d.den]) := rangeAt_below Hb.out hb (by first | omega | (simp; done) | (simp <;> omega))
          have hz2 := hb.size
          (try simp at hz2)
          clear hb
          have nA0 : w.heap.size < w2.heap.size := by omega
          have nB0 : ¬ w.heap.size = w2.heap.size := by omega
          have nC0 : ¬ w2.heap.size = w.heap.size := by omega
          have nA1 : w.heap.size + 1 < w2.heap.size := by omega
          have nB1 : ¬ w.heap.size + 1 = w2.heap.size := by omega
          have nC1 : ¬ w2.heap.size = w.heap.size + 1 := by omega
          refine hK.out _ _ (show _ from ⟨(cellsM Ha.out), (cellsM Hb.out)⟩) (fun hHeld => ?_)
          clear hK K
          (try simp only [Act.put, List.getElem_toArray, List.getElem_cons_succ, List.getElem_cons_zero, List.setIfInBounds_toArray, List.set_cons_zero, List.set_cons_succ])
          refine wpAnyH_take (i := 6) (v := ?_) rfl (by kernel_rfl) (by kernel_rfl) (by kernel_rfl) (fun _ _ _ h => h) (Or.inl ⟨by rfl, ?_⟩) (by assumption) ?_
          rotate_left
          (focus (intro w hSw; (try dsimp only at hSw); go_simp; (try with_reducible rfl)))
          (try simp only [Act.put, List.getElem_toArray, List.getElem_cons_succ, List.getElem_cons_zero, List.setIfInBounds_toArray, List.set_cons_zero, List.set_cons_succ])
          refine wpAnyH_take (i := 7) (v := ?_) rfl (by kernel_rfl) (by kernel_rfl) (by kernel_rfl) (fun _ _ _ h => h) (Or.inl ⟨by rfl, ?_⟩) (by assumption) ?_
          rotate_left
          (focus (intro w hSw; (try dsimp only at hSw); go_simp; (try with_reducible rfl)))
          (try simp only [Act.put, List.getElem_toArray, List.getElem_cons_succ, List.getElem_cons_zero, List.setIfInBounds_toArray, List.set_cons_zero, List.set_cons_succ])
          refine wpAnyH_take (i := 8) (v := ?_) rfl (by kernel_rfl) (by kernel_rfl) (by kernel_rfl) (fun _ _ _ h => h) (Or.inl ⟨by rfl, ?_⟩) (by assumption) ?_
          rotate_left
          (focus (intro w hSw; (try dsimp only at hSw); go_simp; (try with_reducible rfl)))
          (try simp only [Act.put, List.getElem_toArray, List.getElem_cons_succ, List.getElem_cons_zero, List.setIfInBounds_toArray, List.set_cons_zero, List.set_cons_succ])
          refine wpAnyH_take (i := 9) (v := ?_) rfl (by kernel_rfl) (by kernel_rfl) (by kernel_rfl) (fun _ _ _ h => h) (Or.inl ⟨by rfl, ?_⟩) (by assumption) ?_
          rotate_left
          (focus (intro w hSw; (try dsimp only at hSw); go_simp; (try with_reducible rfl)))
          (try simp only [Act.put, List.getElem_toArray, List.getElem_cons_succ, List.getElem_cons_zero, List.setIfInBounds_toArray, List.set_cons_zero, List.set_cons_succ])
          refine wpAnyH_take (i := 11) (v := ?_) rfl (by kernel_rfl) (by kernel_rfl) (by kernel_rfl) (fun _ _ _ h => h) (Or.inl ⟨by rfl, ?_⟩) (by assumption) ?_
          rotate_left
          (focus (intro w hSw; (try dsimp only at hSw); go_simp; (try with_reducible rfl)))
          (try simp only [Act.put, List.getElem_toArray, List.getElem_cons_succ, List.getElem_cons_zero, List.setIfInBounds_toArray, List.set_cons_zero, List.set_cons_succ])
          refine wpAnyH_ready (rs := [10]) (by kernel_rfl) (by simp) ?_
          refine AllReadyH.cons rfl (fun K hK => ?_) AllReadyH.nil
          go_simp
          go_at_call 70
          (with_reducible refine (sdark_any a _).mono ?_)
          rintro e w3 ho
          rw [h3] at ho
          obtain ⟨rfl, hb⟩ : e = .returned (.bool true) ∧ Below _ _ _ := (id ho)
          clear ho
          have HB := Lib.hid (show Below w.heap.size w w3 from HB.out.trans ((show Below _ _ _ from (Below.refl _ _)).trans (hb.mono (by first | omega | (simp <;> omega)))))
          have Ha : Hid (w3.rangeAt (w.heap.size) 0 [.int .i64 a.a.re, .int .i64 a.a.im, .int .i64 a.a.den, .int .i64 a.b.re, .int .i64 a.b.im, .int .i64 a.b.den, .int .i64 a.c.re, .int .i64 a.c.im, .int .i64 a.c.den, .int .i64 a.d.re, .int .i64 a.d.im, .int .i64 a.d.den]) := rangeAt_below Ha.out hb (by first | omega | (simp; done) | (simp <;> omega))
          have Hb : Hid (w3.rangeAt (w.heap.size + 1) 0 [.int .i64 b.a.re, .int .i64 b.a.im, .int .i64 b.a.den, .int .i64 b.b.re, .int .i64 b.b.im, .int .i64 b.b.den, .int .i64 b.c.re, .int .i64 b.c.im, .int .i64 b.c.den, .int .i64 b.d.re, .int .i64 b.d.im, .int .i64 b.d.den]) := rangeAt_below Hb.out hb (by first | omega | (simp; done) | (simp <;> omega))
          have hz3 := hb.size
          (try simp at hz3)
          clear hb
          have nA0 : w.heap.size < w3.heap.size := by omega
          have nB0 : ¬ w.heap.size = w3.heap.size := by omega
          have nC0 : ¬ w3.heap.size = w.heap.size := by omega
          have nA1 : w.heap.size + 1 < w3.heap.size := by omega
          have nB1 : ¬ w.heap.size + 1 = w3.heap.size := by omega
          have nC1 : ¬ w3.heap.size = w.heap.size + 1 := by omega
          refine hK.out _ _ (show _ from ⟨(cellsM Ha.out), (cellsM Hb.out)⟩) (fun hHeld => ?_)
          clear hK K
          (try simp only [Act.put, List.getElem_toArray, List.getElem_cons_succ, List.getElem_cons_zero, List.setIfInBounds_toArray, List.set_cons_zero, List.set_cons_succ])
          refine wpAnyH_ready (rs := [12]) (by kernel_rfl) (by simp) ?_
          refine AllReadyH.cons rfl (fun K hK => ?_) AllReadyH.nil
          go_simp
          go_at_call 70
          (with_reducible refine (sdark_any b _).mono ?_)
          rintro e w4 ho
          rw [h4] at ho
          obtain ⟨rfl, hb⟩ : e = .returned (.bool true) ∧ Below _ _ _ := (id ho)
          clear ho
          have HB := Lib.hid (show Below w.heap.size w w4 from HB.out.trans ((show Below _ _ _ from (Below.refl _ _)).trans (hb.mono (by first | omega | (simp <;> omega)))))
          have Ha : Hid (w4.rangeAt (w.heap.size) 0 [.int .i64 a.a.re, .int .i64 a.a.im, .int .i64 a.a.den, .int .i64 a.b.re, .int .i64 a.b.im, .int .i64 a.b.den, .int .i64 a.c.re, .int .i64 a.c.im, .int .i64 a.c.den, .int .i64 a.d.re, .int .i64 a.d.im, .int .i64 a.d.den]) := rangeAt_below Ha.out hb (by first | omega | (simp; done) | (simp <;> omega))
          have Hb : Hid (w4.rangeAt (w.heap.size + 1) 0 [.int .i64 b.a.re, .int .i64 b.a.im, .int .i64 b.a.den, .int .i64 b.b.re, .int .i64 b.b.im, .int .i64 b.b.den, .int .i64 b.c.re, .int .i64 b.c.im, .int .i64 b.c.den, .int .i64 b.d.re, .int .i64 b.d.im, .int .i64 b.d.den]) := rangeAt_below Hb.out hb (by first | omega | (simp; done) | (simp <;> omega))
          have hz4 := hb.size
          (try simp at hz4)
          clear hb
          have nA0 : w.heap.size < w4.heap.size := by omega
          have nB0 : ¬ w.heap.size = w4.heap.size := by omega
          have nC0 : ¬ w4.heap.size = w.heap.size := by omega
          have nA1 : w.heap.size + 1 < w4.heap.size := by omega
          have nB1 : ¬ w.heap.size + 1 = w4.heap.size := by omega
          have nC1 : ¬ w4.heap.size = w.heap.size + 1 := by omega
          refine hK.out _ _ (show _ from ⟨(cellsM Ha.out), (cellsM Hb.out)⟩) (fun hHeld => ?_)
          clear hK K
          (try simp only [Act.put, List.getElem_toArray, List.getElem_cons_succ, List.getElem_cons_zero, List.setIfInBounds_toArray, List.set_cons_zero, List.set_cons_succ])
          refine wpAnyH_take (i := 13) (v := ?_) rfl (by kernel_rfl) (by kernel_rfl) (by kernel_rfl) (fun _ _ _ h => h) (Or.inl ⟨by rfl, ?_⟩) (by assumption) ?_
          rotate_left
          (focus (intro w hSw; (try dsimp only at hSw); go_simp; (try with_reducible rfl)))
          (try simp only [Act.put, List.getElem_toArray, List.getElem_cons_succ, List.getElem_cons_zero, List.setIfInBounds_toArray, List.set_cons_zero, List.set_cons_succ])
          refine wpAnyH_take (i := 14) (v := ?_) rfl (by kernel_rfl) (by kernel_rfl) (by kernel_rfl) (fun _ _ _ h => h) (Or.inl ⟨by rfl, ?_⟩) (by assumption) ?_
          rotate_left
          (focus (intro w hSw; (try dsimp only at hSw); go_simp; (try with_reducible rfl)))
          (try simp only [Act.put, List.getElem_toArray, List.getElem_cons_succ, List.getElem_cons_zero, List.setIfInBounds_toArray, List.set_cons_zero, List.set_cons_succ])
          refine wpAnyH_done (by kernel_rfl) ?_ _
          clear hHeld
          have HT0 : Hid (ARel w (w.heap.size) (w.heap.size + 1) a b 0 0 w4) := ⟨by omega, by omega, HB.out, nA0, nA1, box_of4 Ha.out, box_of4 Hb.out, fun p q hq hp => by omega⟩
          clear Ha Hb HB
          go_wp2
          have HG0 := Lib.hid HG.out
          clear HG
          go_loopw [5] (fun v wr => AO w (w.heap.size) (w.heap.size + 1) a b v wr) (fun v _ => (4 - intOf v).toNat)
          case atStart => exact ⟨0, rfl, HT0.out⟩
          case round =>
            obtain ⟨i, rfl, hT⟩ := hrel
            clear HT0
            by_cases h4 : i < 4
            · have j0 : (0 : Int) ≤ (i : Int) := by omega
              have j1 : (i : Int) < 4 := by omega
              have HT := Lib.hid hT
              clear hT
              go_wp2
              go_loopw [6] (fun v wr => AI w (w.heap.size) (w.heap.size + 1) a b i v wr) (fun v _ => ((i : Int) - intOf v).toNat)
              case atStart => exact ⟨0, rfl, HT.out⟩
              case round =>
                obtain ⟨k, rfl, hT⟩ := hrel
                clear HT
                by_cases hk : k < i
                · have i0 : (0 : Int) ≤ (k : Int) := by omega
                  have i1 : (k : Int) < (i : Int) := by omega
                  have i2 : (k : Int) < 4 := by omega
                  have HT := Lib.hid hT
                  clear hT
                  have hsA := HT.out.hA
                  have hsB := HT.out.hB
                  have b0 : wr.drew.cell? ⟨w.heap.size, i * 3, none⟩ = some (.int .i64 (a.get i).re) := (HT.out.one i (by omega)).1
                  have p0 : ∀ z, (wr.alloc z).drew.cell? ⟨w.heap.size, i * 3, none⟩ = some (.int .i64 (a.get i).re) := fun z => (World.cell?_alloc_old _ _ _ (show w.heap.size ≠ wr.heap.size by omega)).trans b0
                  have b1 : wr.drew.cell? ⟨w.heap.size, i * 3 + 1, none⟩ = some (.int .i64 (a.get i).im) := (HT.out.one i (by omega)).2.1
                  have p1 : ∀ z, (wr.alloc z).drew.cell? ⟨w.heap.size, i * 3 + 1, none⟩ = some (.int .i64 (a.get i).im) := fun z => (World.cell?_alloc_old _ _ _ (show w.heap.size ≠ wr.heap.size by omega)).trans b1
                  have b2 : wr.drew.cell? ⟨w.heap.size, i * 3 + 2, none⟩ = some (.int .i64 (a.get i).den) := (HT.out.one i (by omega)).2.2
                  have p2 : ∀ z, (wr.alloc z).drew.cell? ⟨w.heap.size, i * 3 + 2, none⟩ = some (.int .i64 (a.get i).den) := fun z => (World.cell?_alloc_old _ _ _ (show w.heap.size ≠ wr.heap.size by omega)).trans b2
                  have b3 : wr.drew.cell? ⟨w.heap.size + 1, k * 3, none⟩ = some (.int .i64 (b.get k).re) := (HT.out.two k (by omega)).1
                  have p3 : ∀ z, (wr.alloc z).drew.cell? ⟨w.heap.size + 1, k * 3, none⟩ = some (.int .i64 (b.get k).re) := fun z => (World.cell?_alloc_old _ _ _ (show w.heap.size + 1 ≠ wr.heap.size by omega)).trans b3
                  have b4 : wr.drew.cell? ⟨w.heap.size + 1, k * 3 + 1, none⟩ = some (.int .i64 (b.get k).im) := (HT.out.two k (by omega)).2.1
                  have p4 : ∀ z, (wr.alloc z).drew.cell? ⟨w.heap.size + 1, k * 3 + 1, none⟩ = some (.int .i64 (b.get k).im) := fun z => (World.cell?_alloc_old _ _ _ (show w.heap.size + 1 ≠ wr.heap.size by omega)).trans b4
                  have b5 : wr.drew.cell? ⟨w.heap.size + 1, k * 3 + 2, none⟩ = some (.int .i64 (b.get k).den) := (HT.out.two k (by omega)).2.2
                  have p5 : ∀ z, (wr.alloc z).drew.cell? ⟨w.heap.size + 1, k * 3 + 2, none⟩ = some (.int .i64 (b.get k).den) := fun z => (World.cell?_alloc_old _ _ _ (show w.heap.size + 1 ≠ wr.heap.size by omega)).trans b5
                  go_wp2
                  go_region_held3 (fun w' => w'.cell? ⟨w.heap.size, i * 3, none⟩ = some (.int .i64 (a.get i).re) ∧ w'.cell? ⟨w.heap.size, i * 3 + 1, none⟩ = some (.int .i64 (a.get i).im) ∧ w'.cell? ⟨w.heap.size, i * 3 + 2, none⟩ = some (.int .i64 (a.get i).den) ∧ w'.cell? ⟨w.heap.size + 1, k * 3, none⟩ = some (.int .i64 (b.get k).re) ∧ w'.cell? ⟨w.heap.size + 1, k * 3 + 1, none⟩ = some (.int .i64 (b.get k).im) ∧ w'.cell? ⟨w.heap.size + 1, k * 3 + 2, none⟩ = some (.int .i64 (b.get k).den)) (((try dsimp only); (first | (with_reducible exact ⟨b0, b1, b2, b3, b4, b5⟩) | (with_reducible exact ⟨p0 _, p1 _, p2 _, p3 _, p4 _, p5 _⟩) | (with_reducible exact ⟨q0, q1, q2, q3, q4, q5⟩) | (with_reducible exact ⟨r0 _, r1 _, r2 _, r3 _, r4 _, r5 _⟩) | (with_reducible exact ⟨s0 _ _ _, s1 _ _ _, s2 _ _ _, s3 _ _ _, s4 _ _ _, s5 _ _ _⟩)))) (first | (go_at_call 71; (with_reducible refine (sptimes_fr (a.get i) (b.get k) wr.drew).mono ?_); rintro e w5 ho; obtain ⟨rfl, hb⟩ := ho.fn; have HT := Lib.hid (HT.out.drew.next hb); have hzw5 : wr.heap.size ≤ w5.heap.size := (by have := hb.size; simpa using this); have q0 : w5.cell? ⟨w.heap.size, i * 3, none⟩ = some (.int .i64 (a.get i).re) := (hb.cell (p := ⟨w.heap.size, i * 3, none⟩) (by show w.heap.size < _; first | omega | (simp <;> omega))).trans (b0); have r0 := fun z => (World.cell?_alloc_old _ z _ (show w.heap.size ≠ w5.heap.size by omega)).trans q0; have q1 : w5.cell? ⟨w.heap.size, i * 3 + 1, none⟩ = some (.int .i64 (a.get i).im) := (hb.cell (p := ⟨w.heap.size, i * 3 + 1, none⟩) (by show w.heap.size < _; first | omega | (simp <;> omega))).trans (b1); have r1 := fun z => (World.cell?_alloc_old _ z _ (show w.heap.size ≠ w5.heap.size by omega)).trans q1; have q2 : w5.cell? ⟨w.heap.size, i * 3 + 2, none⟩ = some (.int .i64 (a.get i).den) := (hb.cell (p := ⟨w.heap.size, i * 3 + 2, none⟩) (by show w.heap.size < _; first | omega | (simp <;> omega))).trans (b2); have r2 := fun z => (World.cell?_alloc_old _ z _ (show w.heap.size ≠ w5.heap.size by omega)).trans q2; have q3 : w5.cell? ⟨w.heap.size + 1, k * 3, none⟩ = some (.int .i64 (b.get k).re) := (hb.cell (p := ⟨w.heap.size + 1, k * 3, none⟩) (by show w.heap.size + 1 < _; first | omega | (simp <;> omega))).trans (b3); have r3 := fun z => (World.cell?_alloc_old _ z _ (show w.heap.size + 1 ≠ w5.heap.size by omega)).trans q3; have q4 : w5.cell? ⟨w.heap.size + 1, k * 3 + 1, none⟩ = some (.int .i64 (b.get k).im) := (hb.cell (p := ⟨w.heap.size + 1, k * 3 + 1, none⟩) (by show w.heap.size + 1 < _; first | omega | (simp <;> omega))).trans (b4); have r4 := fun z => (World.cell?_alloc_old _ z _ (show w.heap.size + 1 ≠ w5.heap.size by omega)).trans q4; have q5 : w5.cell? ⟨w.heap.size + 1, k * 3 + 2, none⟩ = some (.int .i64 (b.get k).den) := (hb.cell (p := ⟨w.heap.size + 1, k * 3 + 2, none⟩) (by show w.heap.size + 1 < _; first | omega | (simp <;> omega))).trans (b5); have r5 := fun z => (World.cell?_alloc_old _ z _ (show w.heap.size + 1 ≠ w5.heap.size by omega)).trans q5; clear ho hb) | (go_at_call 71; (with_reducible refine (sptimes_fr (a.get i) (b.get k) (World.drew (wr.alloc _))).mono ?_); rintro e w5 ho; obtain ⟨rfl, hb⟩ := ho.fn; have HT := Lib.hid ((HT.out.alloc _).drew.next hb); have hzw5 : wr.heap.size + 1 ≤ w5.heap.size := (by have := hb.size; simpa using this); have q0 : w5.cell? ⟨w.heap.size, i * 3, none⟩ = some (.int .i64 (a.get i).re) := (hb.cell (p := ⟨w.heap.size, i * 3, none⟩) (by show w.heap.size < _; first | omega | (simp <;> omega))).trans (p0 _); have s0 := fun u v x => (far3 (i := 0) (j := 1) (k := 2) (u := u) (v := v) (x := x) (show wr.heap.size ≠ w.heap.size by omega)).trans q0; have q1 : w5.cell? ⟨w.heap.size, i * 3 + 1, none⟩ = some (.int .i64 (a.get i).im) := (hb.cell (p := ⟨w.heap.size, i * 3 + 1, none⟩) (by show w.heap.size < _; first | omega | (simp <;> omega))).trans (p1 _); have s1 := fun u v x => (far3 (i := 0) (j := 1) (k := 2) (u := u) (v := v) (x := x) (show wr.heap.size ≠ w.heap.size by omega)).trans q1; have q2 : w5.cell? ⟨w.heap.size, i * 3 + 2, none⟩ = some (.int .i64 (a.get i).den) := (hb.cell (p := ⟨w.heap.size, i * 3 + 2, none⟩) (by show w.heap.size < _; first | omega | (simp <;> omega))).trans (p2 _); have s2 := fun u v x => (far3 (i := 0) (j := 1) (k := 2) (u := u) (v := v) (x := x) (show wr.heap.size ≠ w.heap.size by omega)).trans q2; have q3 : w5.cell? ⟨w.heap.size + 1, k * 3, none⟩ = some (.int .i64 (b.get k).re) := (hb.cell (p := ⟨w.heap.size + 1, k * 3, none⟩) (by show w.heap.size + 1 < _; first | omega | (simp <;> omega))).trans (p3 _); have s3 := fun u v x => (far3 (i := 0) (j := 1) (k := 2) (u := u) (v := v) (x := x) (show wr.heap.size ≠ w.heap.size + 1 by omega)).trans q3; have q4 : w5.cell? ⟨w.heap.size + 1, k * 3 + 1, none⟩ = some (.int .i64 (b.get k).im) := (hb.cell (p := ⟨w.heap.size + 1, k * 3 + 1, none⟩) (by show w.heap.size + 1 < _; first | omega | (simp <;> omega))).trans (p4 _); have s4 := fun u v x => (far3 (i := 0) (j := 1) (k := 2) (u := u) (v := v) (x := x) (show wr.heap.size ≠ w.heap.size + 1 by omega)).trans q4; have q5 : w5.cell? ⟨w.heap.size + 1, k * 3 + 2, none⟩ = some (.int .i64 (b.get k).den) := (hb.cell (p := ⟨w.heap.size + 1, k * 3 + 2, none⟩) (by show w.heap.size + 1 < _; first | omega | (simp <;> omega))).trans (p5 _); have s5 := fun u v x => (far3 (i := 0) (j := 1) (k := 2) (u := u) (v := v) (x := x) (show wr.heap.size ≠ w.heap.size + 1 by omega)).trans q5; have hxB := fun q => hb.cell (p := ⟨wr.heap.size, q, none⟩) (by show wr.heap.size < _; simp); have hxF := fun q => hb.frozen (p := ⟨wr.heap.size, q, none⟩) (by show wr.heap.size < _; simp); have HRX := Lib.hid (Room.below (show Room (World.drew (wr.alloc (.cells #[.int .i64 0, .int .i64 0, .int .i64 0] 23))) wr.heap.size 1 from Room.new' rfl rfl) hb (by simp)); clear ho hb))
                  all_goals (clear b0 b1 b2 b3 b4 b5 p0 p1 p2 p3 p4 p5 q0 q1 q2 q3 q4 q5; first | clear r0 r1 r2 r3 r4 r5 | clear s0 s1 s2 s3 s4 s5)
                  · have hsL := HT.out.below.size
                    have hsA2 := HT.out.hA
                    have hsB2 := HT.out.hB
                    obtain ⟨V, hW⟩ : ∃ W, W = w5.alloc (.cells #[.int .i64 (fTimes (a.get i) (b.get k)).1.re, .int .i64 (fTimes (a.get i) (b.get k)).1.im, .int .i64 (fTimes (a.get i) (b.get k)).1.den] 23) := ⟨_, rfl⟩
                    have HT : Hid (ARel w (w.heap.size) (w.heap.size + 1) a b i k V) := by rw [hW]; exact HT.out.alloc _
                    have HXx : Hid (BoxAt V w5.heap.size (fun _ => (fTimes (a.get i) (b.get k)).1) 1) := by rw [hW]; exact BoxAt.new _ _ _ _ _ (src1 (fTimes (a.get i) (b.get k)).1)
                    have hzHXx : w5.heap.size < V.heap.size := by rw [hW]; simp
                    rw [← hW]
                    clear hW hsA hsB hsA2 hsB2 hsL
                    have hsA := HT.out.hA
                    have hsB := HT.out.hB
                    have b0 : V.drew.cell? ⟨w.heap.size, k * 3, none⟩ = some (.int .i64 (a.get k).re) := (HT.out.one k (by omega)).1
                    have p0 : ∀ z, (V.alloc z).drew.cell? ⟨w.heap.size, k * 3, none⟩ = some (.int .i64 (a.get k).re) := fun z => (World.cell?_alloc_old _ _ _ (show w.heap.size ≠ V.heap.size by omega)).trans b0
                    have b1 : V.drew.cell? ⟨w.heap.size, k * 3 + 1, none⟩ = some (.int .i64 (a.get k).im) := (HT.out.one k (by omega)).2.1
                    have p1 : ∀ z, (V.alloc z).drew.cell? ⟨w.heap.size, k * 3 + 1, none⟩ = some (.int .i64 (a.get k).im) := fun z => (World.cell?_alloc_old _ _ _ (show w.heap.size ≠ V.heap.size by omega)).trans b1
                    have b2 : V.drew.cell? ⟨w.heap.size, k * 3 + 2, none⟩ = some (.int .i64 (a.get k).den) := (HT.out.one k (by omega)).2.2
                    have p2 : ∀ z, (V.alloc z).drew.cell? ⟨w.heap.size, k * 3 + 2, none⟩ = some (.int .i64 (a.get k).den) := fun z => (World.cell?_alloc_old _ _ _ (show w.heap.size ≠ V.heap.size by omega)).trans b2
                    have b3 : V.drew.cell? ⟨w.heap.size + 1, i * 3, none⟩ = some (.int .i64 (b.get i).re) := (HT.out.two i (by omega)).1
                    have p3 : ∀ z, (V.alloc z).drew.cell? ⟨w.heap.size + 1, i * 3, none⟩ = some (.int .i64 (b.get i).re) := fun z => (World.cell?_alloc_old _ _ _ (show w.heap.size + 1 ≠ V.heap.size by omega)).trans b3
                    have b4 : V.drew.cell? ⟨w.heap.size + 1, i * 3 + 1, none⟩ = some (.int .i64 (b.get i).im) := (HT.out.two i (by omega)).2.1
                    have p4 : ∀ z, (V.alloc z).drew.cell? ⟨w.heap.size + 1, i * 3 + 1, none⟩ = some (.int .i64 (b.get i).im) := fun z => (World.cell?_alloc_old _ _ _ (show w.heap.size + 1 ≠ V.heap.size by omega)).trans b4
                    have b5 : V.drew.cell? ⟨w.heap.size + 1, i * 3 + 2, none⟩ = some (.int .i64 (b.get i).den) := (HT.out.two i (by omega)).2.2
                    have p5 : ∀ z, (V.alloc z).drew.cell? ⟨w.heap.size + 1, i * 3 + 2, none⟩ = some (.int .i64 (b.get i).den) := fun z => (World.cell?_alloc_old _ _ _ (show w.heap.size + 1 ≠ V.heap.size by omega)).trans b5
                    go_wp2
                    go_region_held3 (fun w' => w'.cell? ⟨w.heap.size, k * 3, none⟩ = some (.int .i64 (a.get k).re) ∧ w'.cell? ⟨w.heap.size, k * 3 + 1, none⟩ = some (.int .i64 (a.get k).im) ∧ w'.cell? ⟨w.heap.size, k * 3 + 2, none⟩ = some (.int .i64 (a.get k).den) ∧ w'.cell? ⟨w.heap.size + 1, i * 3, none⟩ = some (.int .i64 (b.get i).re) ∧ w'.cell? ⟨w.heap.size + 1, i * 3 + 1, none⟩ = some (.int .i64 (b.get i).im) ∧ w'.cell? ⟨w.heap.size + 1, i * 3 + 2, none⟩ = some (.int .i64 (b.get i).den)) (((try dsimp only); (first | (with_reducible exact ⟨b0, b1, b2, b3, b4, b5⟩) | (with_reducible exact ⟨p0 _, p1 _, p2 _, p3 _, p4 _, p5 _⟩) | (with_reducible exact ⟨q0, q1, q2, q3, q4, q5⟩) | (with_reducible exact ⟨r0 _, r1 _, r2 _, r3 _, r4 _, r5 _⟩) | (with_reducible exact ⟨s0 _ _ _, s1 _ _ _, s2 _ _ _, s3 _ _ _, s4 _ _ _, s5 _ _ _⟩)))) (first | (go_at_call 71; (with_reducible refine (sptimes_fr (a.get k) (b.get i) V.drew).mono ?_); rintro e w6 ho; obtain ⟨rfl, hb⟩ := ho.fn; have HT := Lib.hid (HT.out.drew.next hb); have hzw6 : V.heap.size ≤ w6.heap.size := (by have := hb.size; simpa using this); have q0 : w6.cell? ⟨w.heap.size, k * 3, none⟩ = some (.int .i64 (a.get k).re) := (hb.cell (p := ⟨w.heap.size, k * 3, none⟩) (by show w.heap.size < _; first | omega | (simp <;> omega))).trans (b0); have r0 := fun z => (World.cell?_alloc_old _ z _ (show w.heap.size ≠ w6.heap.size by omega)).trans q0; have q1 : w6.cell? ⟨w.heap.size, k * 3 + 1, none⟩ = some (.int .i64 (a.get k).im) := (hb.cell (p := ⟨w.heap.size, k * 3 + 1, none⟩) (by show w.heap.size < _; first | omega | (simp <;> omega))).trans (b1); have r1 := fun z => (World.cell?_alloc_old _ z _ (show w.heap.size ≠ w6.heap.size by omega)).trans q1; have q2 : w6.cell? ⟨w.heap.size, k * 3 + 2, none⟩ = some (.int .i64 (a.get k).den) := (hb.cell (p := ⟨w.heap.size, k * 3 + 2, none⟩) (by show w.heap.size < _; first | omega | (simp <;> omega))).trans (b2); have r2 := fun z => (World.cell?_alloc_old _ z _ (show w.heap.size ≠ w6.heap.size by omega)).trans q2; have q3 : w6.cell? ⟨w.heap.size + 1, i * 3, none⟩ = some (.int .i64 (b.get i).re) := (hb.cell (p := ⟨w.heap.size + 1, i * 3, none⟩) (by show w.heap.size + 1 < _; first | omega | (simp <;> omega))).trans (b3); have r3 := fun z => (World.cell?_alloc_old _ z _ (show w.heap.size + 1 ≠ w6.heap.size by omega)).trans q3; have q4 : w6.cell? ⟨w.heap.size + 1, i * 3 + 1, none⟩ = some (.int .i64 (b.get i).im) := (hb.cell (p := ⟨w.heap.size + 1, i * 3 + 1, none⟩) (by show w.heap.size + 1 < _; first | omega | (simp <;> omega))).trans (b4); have r4 := fun z => (World.cell?_alloc_old _ z _ (show w.heap.size + 1 ≠ w6.heap.size by omega)).trans q4; have q5 : w6.cell? ⟨w.heap.size + 1, i * 3 + 2, none⟩ = some (.int .i64 (b.get i).den) := (hb.cell (p := ⟨w.heap.size + 1, i * 3 + 2, none⟩) (by show w.heap.size + 1 < _; first | omega | (simp <;> omega))).trans (b5); have r5 := fun z => (World.cell?_alloc_old _ z _ (show w.heap.size + 1 ≠ w6.heap.size by omega)).trans q5; have HXx := Lib.hid ((BoxAt.drew' HXx.out).below hb (by simpa using hzHXx)); clear ho hb) | (go_at_call 71; (with_reducible refine (sptimes_fr (a.get k) (b.get i) (World.drew (V.alloc _))).mono ?_); rintro e w6 ho; obtain ⟨rfl, hb⟩ := ho.fn; have HT := Lib.hid ((HT.out.alloc _).drew.next hb); have hzw6 : V.heap.size + 1 ≤ w6.heap.size := (by have := hb.size; simpa using this); have q0 : w6.cell? ⟨w.heap.size, k * 3, none⟩ = some (.int .i64 (a.get k).re) := (hb.cell (p := ⟨w.heap.size, k * 3, none⟩) (by show w.heap.size < _; first | omega | (simp <;> omega))).trans (p0 _); have s0 := fun u v x => (far3 (i := 0) (j := 1) (k := 2) (u := u) (v := v) (x := x) (show V.heap.size ≠ w.heap.size by omega)).trans q0; have q1 : w6.cell? ⟨w.heap.size, k * 3 + 1, none⟩ = some (.int .i64 (a.get k).im) := (hb.cell (p := ⟨w.heap.size, k * 3 + 1, none⟩) (by show w.heap.size < _; first | omega | (simp <;> omega))).trans (p1 _); have s1 := fun u v x => (far3 (i := 0) (j := 1) (k := 2) (u := u) (v := v) (x := x) (show V.heap.size ≠ w.heap.size by omega)).trans q1; have q2 : w6.cell? ⟨w.heap.size, k * 3 + 2, none⟩ = some (.int .i64 (a.get k).den) := (hb.cell (p := ⟨w.heap.size, k * 3 + 2, none⟩) (by show w.heap.size < _; first | omega | (simp <;> omega))).trans (p2 _); have s2 := fun u v x => (far3 (i := 0) (j := 1) (k := 2) (u := u) (v := v) (x := x) (show V.heap.size ≠ w.heap.size by omega)).trans q2; have q3 : w6.cell? ⟨w.heap.size + 1, i * 3, none⟩ = some (.int .i64 (b.get i).re) := (hb.cell (p := ⟨w.heap.size + 1, i * 3, none⟩) (by show w.heap.size + 1 < _; first | omega | (simp <;> omega))).trans (p3 _); have s3 := fun u v x => (far3 (i := 0) (j := 1) (k := 2) (u := u) (v := v) (x := x) (show V.heap.size ≠ w.heap.size + 1 by omega)).trans q3; have q4 : w6.cell? ⟨w.heap.size + 1, i * 3 + 1, none⟩ = some (.int .i64 (b.get i).im) := (hb.cell (p := ⟨w.heap.size + 1, i * 3 + 1, none⟩) (by show w.heap.size + 1 < _; first | omega | (simp <;> omega))).trans (p4 _); have s4 := fun u v x => (far3 (i := 0) (j := 1) (k := 2) (u := u) (v := v) (x := x) (show V.heap.size ≠ w.heap.size + 1 by omega)).trans q4; have q5 : w6.cell? ⟨w.heap.size + 1, i * 3 + 2, none⟩ = some (.int .i64 (b.get i).den) := (hb.cell (p := ⟨w.heap.size + 1, i * 3 + 2, none⟩) (by show w.heap.size + 1 < _; first | omega | (simp <;> omega))).trans (p5 _); have s5 := fun u v x => (far3 (i := 0) (j := 1) (k := 2) (u := u) (v := v) (x := x) (show V.heap.size ≠ w.heap.size + 1 by omega)).trans q5; have HXx := Lib.hid ((BoxAt.drew' (HXx.out.alloc hzHXx (.cells #[.int .i64 0, .int .i64 0, .int .i64 0] 23))).below hb (by simp; omega)); have hxB := fun q => hb.cell (p := ⟨V.heap.size, q, none⟩) (by show V.heap.size < _; simp); have hxF := fun q => hb.frozen (p := ⟨V.heap.size, q, none⟩) (by show V.heap.size < _; simp); have HRX := Lib.hid (Room.below (show Room (World.drew (V.alloc (.cells #[.int .i64 0, .int .i64 0, .int .i64 0] 23))) V.heap.size 1 from Room.new' rfl rfl) hb (by simp)); clear ho hb))
                    all_goals (clear b0 b1 b2 b3 b4 b5 p0 p1 p2 p3 p4 p5 q0 q1 q2 q3 q4 q5; first | clear r0 r1 r2 r3 r4 r5 | clear s0 s1 s2 s3 s4 s5)
                    · have hsL := HT.out.below.size
                      have hsA2 := HT.out.hA
                      have hsB2 := HT.out.hB
                      obtain ⟨U, hW⟩ : ∃ W, W = w6.alloc (.cells #[.int .i64 (fTimes (a.get k) (b.get i)).1.re, .int .i64 (fTimes (a.get k) (b.get i)).1.im, .int .i64 (fTimes (a.get k) (b.get i)).1.den] 23) := ⟨_, rfl⟩
                      have HT : Hid (ARel w (w.heap.size) (w.heap.size + 1) a b i k U) := by rw [hW]; exact HT.out.alloc _
                      have HYy : Hid (BoxAt U w6.heap.size (fun _ => (fTimes (a.get k) (b.get i)).1) 1) := by rw [hW]; exact BoxAt.new _ _ _ _ _ (src1 (fTimes (a.get k) (b.get i)).1)
                      have hzHYy : w6.heap.size < U.heap.size := by rw [hW]; simp
                      have HXx : Hid (BoxAt U w5.heap.size (fun _ => (fTimes (a.get i) (b.get k)).1) 1) := by rw [hW]; exact HXx.out.alloc (by omega) _
                      have hzHXx : w5.heap.size < U.heap.size := by rw [hW]; simp; omega
                      rw [← hW]
                      clear hW hsA hsB hsA2 hsB2 hsL
                      have x0 : U.cell? ⟨w5.heap.size, 0, none⟩ = some (.int .i64 (fTimes (a.get i) (b.get k)).1.re) := (HXx.out 0 (by omega)).1
                      have x1 : U.cell? ⟨w5.heap.size, 1, none⟩ = some (.int .i64 (fTimes (a.get i) (b.get k)).1.im) := (HXx.out 0 (by omega)).2.1
                      have x2 : U.cell? ⟨w5.heap.size, 2, none⟩ = some (.int .i64 (fTimes (a.get i) (b.get k)).1.den) := (HXx.out 0 (by omega)).2.2
                      have y0 : U.cell? ⟨w6.heap.size, 0, none⟩ = some (.int .i64 (fTimes (a.get k) (b.get i)).1.re) := (HYy.out 0 (by omega)).1
                      have y1 : U.cell? ⟨w6.heap.size, 1, none⟩ = some (.int .i64 (fTimes (a.get k) (b.get i)).1.im) := (HYy.out 0 (by omega)).2.1
                      have y2 : U.cell? ⟨w6.heap.size, 2, none⟩ = some (.int .i64 (fTimes (a.get k) (b.get i)).1.den) := (HYy.out 0 (by omega)).2.2
                      cases c1 : (fTimes (a.get i) (b.get k)).2
                      · have HG := Lib.hid (alB_bad hk h4 (show gpB a b i k = false by unfold gpB; rw [c1]; rfl))
                        have HB := Lib.hid HT.out.below
                        clear HT HXx HYy
                        go_wp2
                        go_ret
                        exact ⟨by rw [HG0.out, HG.out]; rfl, HB.out⟩
                      · cases c2 : (fTimes (a.get k) (b.get i)).2
                        · have HG := Lib.hid (alB_bad hk h4 (show gpB a b i k = false by unfold gpB; rw [c2]; simp))
                          have HB := Lib.hid HT.out.below
                          clear HT HXx HYy
                          go_wp2
                          go_ret
                          exact ⟨by rw [HG0.out, HG.out]; rfl, HB.out⟩
                        · by_cases e1 : (fTimes (a.get i) (b.get k)).1.re = (fTimes (a.get k) (b.get i)).1.re
                          case neg =>
                            have HG := Lib.hid (alB_bad hk h4 (show gpB a b i k = false by unfold gpB frEq; simp [e1]))
                            have HB := Lib.hid HT.out.below
                            clear HT HXx HYy
                            go_wp2
                            go_ret
                            exact ⟨by rw [HG0.out, HG.out]; rfl, HB.out⟩
                          by_cases e2 : (fTimes (a.get i) (b.get k)).1.im = (fTimes (a.get k) (b.get i)).1.im
                          case neg =>
                            have HG := Lib.hid (alB_bad hk h4 (show gpB a b i k = false by unfold gpB frEq; simp [e2]))
                            have HB := Lib.hid HT.out.below
                            clear HT HXx HYy
                            go_wp2
                            go_ret
                            exact ⟨by rw [HG0.out, HG.out]; rfl, HB.out⟩
                          by_cases e3 : (fTimes (a.get i) (b.get k)).1.den = (fTimes (a.get k) (b.get i)).1.den
                          case neg =>
                            have HG := Lib.hid (alB_bad hk h4 (show gpB a b i k = false by unfold gpB frEq; simp [e3]))
                            have HB := Lib.hid HT.out.below
                            clear HT HXx HYy
                            go_wp2
                            go_ret
                            exact ⟨by rw [HG0.out, HG.out]; rfl, HB.out⟩
                          have HS := Lib.hid (HT.out.step hk (show gpB a b i k = true by unfold gpB frEq; rw [c1, c2]; simp [e1, e2, e3]))
                          clear HT HXx HYy
                          go_wp2
                          go_roundw
                          case rel => exact ⟨k + 1, by go_num, HS.out⟩
                          case measure => simp [intOf]; omega
                    · have hsL := HT.out.below.size
                      have hsA2 := HT.out.hA
                      have hsB2 := HT.out.hB
                      obtain ⟨U, hW⟩ : ∃ W, W = ((w6.setCell ⟨V.heap.size, 0, none⟩ (.int .i64 (fTimes (a.get k) (b.get i)).1.re)).setCell ⟨V.heap.size, 1, none⟩ (.int .i64 (fTimes (a.get k) (b.get i)).1.im)).setCell ⟨V.heap.size, 2, none⟩ (.int .i64 (fTimes (a.get k) (b.get i)).1.den) := ⟨_, rfl⟩
                      have HT : Hid (ARel w (w.heap.size) (w.heap.size + 1) a b i k U) := by rw [hW]; exact HT.out.other (by omega) (by omega) (by omega) (fTimes (a.get k) (b.get i)).1
                      have HYy : Hid (BoxAt U V.heap.size (fun _ => (fTimes (a.get k) (b.get i)).1) 1) := by rw [hW]; exact BoxAt.put (g := fun _ => (fTimes (a.get k) (b.get i)).1) (k := 0) (fun k hk => absurd hk (by omega)) HRX.out (by omega)
                      have hzHYy : V.heap.size < U.heap.size := by rw [hW]; simp; omega
                      have HXx : Hid (BoxAt U w5.heap.size (fun _ => (fTimes (a.get i) (b.get k)).1) 1) := by rw [hW]; exact HXx.out.put_other (M := V.heap.size) (by omega) 0 (fTimes (a.get k) (b.get i)).1
                      have hzHXx : w5.heap.size < U.heap.size := by rw [hW]; simp; omega
                      clear hxB hxF HRX
                      rw [← hW]
                      clear hW hsA hsB hsA2 hsB2 hsL
                      have x0 : U.cell? ⟨w5.heap.size, 0, none⟩ = some (.int .i64 (fTimes (a.get i) (b.get k)).1.re) := (HXx.out 0 (by omega)).1
                      have x1 : U.cell? ⟨w5.heap.size, 1, none⟩ = some (.int .i64 (fTimes (a.get i) (b.get k)).1.im) := (HXx.out 0 (by omega)).2.1
                      have x2 : U.cell? ⟨w5.heap.size, 2, none⟩ = some (.int .i64 (fTimes (a.get i) (b.get k)).1.den) := (HXx.out 0 (by omega)).2.2
                      have y0 : U.cell? ⟨V.heap.size, 0, none⟩ = some (.int .i64 (fTimes (a.get k) (b.get i)).1.re) := (HYy.out 0 (by omega)).1
                      have y1 : U.cell? ⟨V.heap.size, 1, none⟩ = some (.int .i64 (fTimes (a.get k) (b.get i)).1.im) := (HYy.out 0 (by omega)).2.1
                      have y2 : U.cell? ⟨V.heap.size, 2, none⟩ = some (.int .i64 (fTimes (a.get k) (b.get i)).1.den) := (HYy.out 0 (by omega)).2.2
                      cases c1 : (fTimes (a.get i) (b.get k)).2
                      · have HG := Lib.hid (alB_bad hk h4 (show gpB a b i k = false by unfold gpB; rw [c1]; rfl))
                        have HB := Lib.hid HT.out.below
                        clear HT HXx HYy
                        go_wp2
                        go_ret
                        exact ⟨by rw [HG0.out, HG.out]; rfl, HB.out⟩
                      · cases c2 : (fTimes (a.get k) (b.get i)).2
                        · have HG := Lib.hid (alB_bad hk h4 (show gpB a b i k = false by unfold gpB; rw [c2]; simp))
                          have HB := Lib.hid HT.out.below
                          clear HT HXx HYy
                          go_wp2
                          go_ret
                          exact ⟨by rw [HG0.out, HG.out]; rfl, HB.out⟩
                        · by_cases e1 : (fTimes (a.get i) (b.get k)).1.re = (fTimes (a.get k) (b.get i)).1.re
                          case neg =>
                            have HG := Lib.hid (alB_bad hk h4 (show gpB a b i k = false by unfold gpB frEq; simp [e1]))
                            have HB := Lib.hid HT.out.below
                            clear HT HXx HYy
                            go_wp2
                            go_ret
                            exact ⟨by rw [HG0.out, HG.out]; rfl, HB.out⟩
                          by_cases e2 : (fTimes (a.get i) (b.get k)).1.im = (fTimes (a.get k) (b.get i)).1.im
                          case neg =>
                            have HG := Lib.hid (alB_bad hk h4 (show gpB a b i k = false by unfold gpB frEq; simp [e2]))
                            have HB := Lib.hid HT.out.below
                            clear HT HXx HYy
                            go_wp2
                            go_ret
                            exact ⟨by rw [HG0.out, HG.out]; rfl, HB.out⟩
                          by_cases e3 : (fTimes (a.get i) (b.get k)).1.den = (fTimes (a.get k) (b.get i)).1.den
                          case neg =>
                            have HG := Lib.hid (alB_bad hk h4 (show gpB a b i k = false by unfold gpB frEq; simp [e3]))
                            have HB := Lib.hid HT.out.below
                            clear HT HXx HYy
                            go_wp2
                            go_ret
                            exact ⟨by rw [HG0.out, HG.out]; rfl, HB.out⟩
                          have HS := Lib.hid (HT.out.step hk (show gpB a b i k = true by unfold gpB frEq; rw [c1, c2]; simp [e1, e2, e3]))
                          clear HT HXx HYy
                          go_wp2
                          go_roundw
                          case rel => exact ⟨k + 1, by go_num, HS.out⟩
                          case measure => simp [intOf]; omega
                  · have hsL := HT.out.below.size
                    have hsA2 := HT.out.hA
                    have hsB2 := HT.out.hB
                    obtain ⟨V, hW⟩ : ∃ W, W = ((w5.setCell ⟨wr.heap.size, 0, none⟩ (.int .i64 (fTimes (a.get i) (b.get k)).1.re)).setCell ⟨wr.heap.size, 1, none⟩ (.int .i64 (fTimes (a.get i) (b.get k)).1.im)).setCell ⟨wr.heap.size, 2, none⟩ (.int .i64 (fTimes (a.get i) (b.get k)).1.den) := ⟨_, rfl⟩
                    have HT : Hid (ARel w (w.heap.size) (w.heap.size + 1) a b i k V) := by rw [hW]; exact HT.out.other (by omega) (by omega) (by omega) (fTimes (a.get i) (b.get k)).1
                    have HXx : Hid (BoxAt V wr.heap.size (fun _ => (fTimes (a.get i) (b.get k)).1) 1) := by rw [hW]; exact BoxAt.put (g := fun _ => (fTimes (a.get i) (b.get k)).1) (k := 0) (fun k hk => absurd hk (by omega)) HRX.out (by omega)
                    have hzHXx : wr.heap.size < V.heap.size := by rw [hW]; simp; omega
                    clear hxB hxF HRX
                    rw [← hW]
                    clear hW hsA hsB hsA2 hsB2 hsL
                    have hsA := HT.out.hA
                    have hsB := HT.out.hB
                    have b0 : V.drew.cell? ⟨w.heap.size, k * 3, none⟩ = some (.int .i64 (a.get k).re) := (HT.out.one k (by omega)).1
                    have p0 : ∀ z, (V.alloc z).drew.cell? ⟨w.heap.size, k * 3, none⟩ = some (.int .i64 (a.get k).re) := fun z => (World.cell?_alloc_old _ _ _ (show w.heap.size ≠ V.heap.size by omega)).trans b0
                    have b1 : V.drew.cell? ⟨w.heap.size, k * 3 + 1, none⟩ = some (.int .i64 (a.get k).im) := (HT.out.one k (by omega)).2.1
                    have p1 : ∀ z, (V.alloc z).drew.cell? ⟨w.heap.size, k * 3 + 1, none⟩ = some (.int .i64 (a.get k).im) := fun z => (World.cell?_alloc_old _ _ _ (show w.heap.size ≠ V.heap.size by omega)).trans b1
                    have b2 : V.drew.cell? ⟨w.heap.size, k * 3 + 2, none⟩ = some (.int .i64 (a.get k).den) := (HT.out.one k (by omega)).2.2
                    have p2 : ∀ z, (V.alloc z).drew.cell? ⟨w.heap.size, k * 3 + 2, none⟩ = some (.int .i64 (a.get k).den) := fun z => (World.cell?_alloc_old _ _ _ (show w.heap.size ≠ V.heap.size by omega)).trans b2
                    have b3 : V.drew.cell? ⟨w.heap.size + 1, i * 3, none⟩ = some (.int .i64 (b.get i).re) := (HT.out.two i (by omega)).1
                    have p3 : ∀ z, (V.alloc z).drew.cell? ⟨w.heap.size + 1, i * 3, none⟩ = some (.int .i64 (b.get i).re) := fun z => (World.cell?_alloc_old _ _ _ (show w.heap.size + 1 ≠ V.heap.size by omega)).trans b3
                    have b4 : V.drew.cell? ⟨w.heap.size + 1, i * 3 + 1, none⟩ = some (.int .i64 (b.get i).im) := (HT.out.two i (by omega)).2.1
                    have p4 : ∀ z, (V.alloc z).drew.cell? ⟨w.heap.size + 1, i * 3 + 1, none⟩ = some (.int .i64 (b.get i).im) := fun z => (World.cell?_alloc_old _ _ _ (show w.heap.size + 1 ≠ V.heap.size by omega)).trans b4
                    have b5 : V.drew.cell? ⟨w.heap.size + 1, i * 3 + 2, none⟩ = some (.int .i64 (b.get i).den) := (HT.out.two i (by omega)).2.2
                    have p5 : ∀ z, (V.alloc z).drew.cell? ⟨w.heap.size + 1, i * 3 + 2, none⟩ = some (.int .i64 (b.get i).den) := fun z => (World.cell?_alloc_old _ _ _ (show w.heap.size + 1 ≠ V.heap.size by omega)).trans b5
                    go_wp2
                    go_region_held3 (fun w' => w'.cell? ⟨w.heap.size, k * 3, none⟩ = some (.int .i64 (a.get k).re) ∧ w'.cell? ⟨w.heap.size, k * 3 + 1, none⟩ = some (.int .i64 (a.get k).im) ∧ w'.cell? ⟨w.heap.size, k * 3 + 2, none⟩ = some (.int .i64 (a.get k).den) ∧ w'.cell? ⟨w.heap.size + 1, i * 3, none⟩ = some (.int .i64 (b.get i).re) ∧ w'.cell? ⟨w.heap.size + 1, i * 3 + 1, none⟩ = some (.int .i64 (b.get i).im) ∧ w'.cell? ⟨w.heap.size + 1, i * 3 + 2, none⟩ = some (.int .i64 (b.get i).den)) (((try dsimp only); (first | (with_reducible exact ⟨b0, b1, b2, b3, b4, b5⟩) | (with_reducible exact ⟨p0 _, p1 _, p2 _, p3 _, p4 _, p5 _⟩) | (with_reducible exact ⟨q0, q1, q2, q3, q4, q5⟩) | (with_reducible exact ⟨r0 _, r1 _, r2 _, r3 _, r4 _, r5 _⟩) | (with_reducible exact ⟨s0 _ _ _, s1 _ _ _, s2 _ _ _, s3 _ _ _, s4 _ _ _, s5 _ _ _⟩)))) (first | (go_at_call 71; (with_reducible refine (sptimes_fr (a.get k) (b.get i) V.drew).mono ?_); rintro e w6 ho; obtain ⟨rfl, hb⟩ := ho.fn; have HT := Lib.hid (HT.out.drew.next hb); have hzw6 : V.heap.size ≤ w6.heap.size := (by have := hb.size; simpa using this); have q0 : w6.cell? ⟨w.heap.size, k * 3, none⟩ = some (.int .i64 (a.get k).re) := (hb.cell (p := ⟨w.heap.size, k * 3, none⟩) (by show w.heap.size < _; first | omega | (simp <;> omega))).trans (b0); have r0 := fun z => (World.cell?_alloc_old _ z _ (show w.heap.size ≠ w6.heap.size by omega)).trans q0; have q1 : w6.cell? ⟨w.heap.size, k * 3 + 1, none⟩ = some (.int .i64 (a.get k).im) := (hb.cell (p := ⟨w.heap.size, k * 3 + 1, none⟩) (by show w.heap.size < _; first | omega | (simp <;> omega))).trans (b1); have r1 := fun z => (World.cell?_alloc_old _ z _ (show w.heap.size ≠ w6.heap.size by omega)).trans q1; have q2 : w6.cell? ⟨w.heap.size, k * 3 + 2, none⟩ = some (.int .i64 (a.get k).den) := (hb.cell (p := ⟨w.heap.size, k * 3 + 2, none⟩) (by show w.heap.size < _; first | omega | (simp <;> omega))).trans (b2); have r2 := fun z => (World.cell?_alloc_old _ z _ (show w.heap.size ≠ w6.heap.size by omega)).trans q2; have q3 : w6.cell? ⟨w.heap.size + 1, i * 3, none⟩ = some (.int .i64 (b.get i).re) := (hb.cell (p := ⟨w.heap.size + 1, i * 3, none⟩) (by show w.heap.size + 1 < _; first | omega | (simp <;> omega))).trans (b3); have r3 := fun z => (World.cell?_alloc_old _ z _ (show w.heap.size + 1 ≠ w6.heap.size by omega)).trans q3; have q4 : w6.cell? ⟨w.heap.size + 1, i * 3 + 1, none⟩ = some (.int .i64 (b.get i).im) := (hb.cell (p := ⟨w.heap.size + 1, i * 3 + 1, none⟩) (by show w.heap.size + 1 < _; first | omega | (simp <;> omega))).trans (b4); have r4 := fun z => (World.cell?_alloc_old _ z _ (show w.heap.size + 1 ≠ w6.heap.size by omega)).trans q4; have q5 : w6.cell? ⟨w.heap.size + 1, i * 3 + 2, none⟩ = some (.int .i64 (b.get i).den) := (hb.cell (p := ⟨w.heap.size + 1, i * 3 + 2, none⟩) (by show w.heap.size + 1 < _; first | omega | (simp <;> omega))).trans (b5); have r5 := fun z => (World.cell?_alloc_old _ z _ (show w.heap.size + 1 ≠ w6.heap.size by omega)).trans q5; have HXx := Lib.hid ((BoxAt.drew' HXx.out).below hb (by simpa using hzHXx)); clear ho hb) | (go_at_call 71; (with_reducible refine (sptimes_fr (a.get k) (b.get i) (World.drew (V.alloc _))).mono ?_); rintro e w6 ho; obtain ⟨rfl, hb⟩ := ho.fn; have HT := Lib.hid ((HT.out.alloc _).drew.next hb); have hzw6 : V.heap.size + 1 ≤ w6.heap.size := (by have := hb.size; simpa using this); have q0 : w6.cell? ⟨w.heap.size, k * 3, none⟩ = some (.int .i64 (a.get k).re) := (hb.cell (p := ⟨w.heap.size, k * 3, none⟩) (by show w.heap.size < _; first | omega | (simp <;> omega))).trans (p0 _); have s0 := fun u v x => (far3 (i := 0) (j := 1) (k := 2) (u := u) (v := v) (x := x) (show V.heap.size ≠ w.heap.size by omega)).trans q0; have q1 : w6.cell? ⟨w.heap.size, k * 3 + 1, none⟩ = some (.int .i64 (a.get k).im) := (hb.cell (p := ⟨w.heap.size, k * 3 + 1, none⟩) (by show w.heap.size < _; first | omega | (simp <;> omega))).trans (p1 _); have s1 := fun u v x => (far3 (i := 0) (j := 1) (k := 2) (u := u) (v := v) (x := x) (show V.heap.size ≠ w.heap.size by omega)).trans q1; have q2 : w6.cell? ⟨w.heap.size, k * 3 + 2, none⟩ = some (.int .i64 (a.get k).den) := (hb.cell (p := ⟨w.heap.size, k * 3 + 2, none⟩) (by show w.heap.size < _; first | omega | (simp <;> omega))).trans (p2 _); have s2 := fun u v x => (far3 (i := 0) (j := 1) (k := 2) (u := u) (v := v) (x := x) (show V.heap.size ≠ w.heap.size by omega)).trans q2; have q3 : w6.cell? ⟨w.heap.size + 1, i * 3, none⟩ = some (.int .i64 (b.get i).re) := (hb.cell (p := ⟨w.heap.size + 1, i * 3, none⟩) (by show w.heap.size + 1 < _; first | omega | (simp <;> omega))).trans (p3 _); have s3 := fun u v x => (far3 (i := 0) (j := 1) (k := 2) (u := u) (v := v) (x := x) (show V.heap.size ≠ w.heap.size + 1 by omega)).trans q3; have q4 : w6.cell? ⟨w.heap.size + 1, i * 3 + 1, none⟩ = some (.int .i64 (b.get i).im) := (hb.cell (p := ⟨w.heap.size + 1, i * 3 + 1, none⟩) (by show w.heap.size + 1 < _; first | omega | (simp <;> omega))).trans (p4 _); have s4 := fun u v x => (far3 (i := 0) (j := 1) (k := 2) (u := u) (v := v) (x := x) (show V.heap.size ≠ w.heap.size + 1 by omega)).trans q4; have q5 : w6.cell? ⟨w.heap.size + 1, i * 3 + 2, none⟩ = some (.int .i64 (b.get i).den) := (hb.cell (p := ⟨w.heap.size + 1, i * 3 + 2, none⟩) (by show w.heap.size + 1 < _; first | omega | (simp <;> omega))).trans (p5 _); have s5 := fun u v x => (far3 (i := 0) (j := 1) (k := 2) (u := u) (v := v) (x := x) (show V.heap.size ≠ w.heap.size + 1 by omega)).trans q5; have HXx := Lib.hid ((BoxAt.drew' (HXx.out.alloc hzHXx (.cells #[.int .i64 0, .int .i64 0, .int .i64 0] 23))).below hb (by simp; omega)); have hxB := fun q => hb.cell (p := ⟨V.heap.size, q, none⟩) (by show V.heap.size < _; simp); have hxF := fun q => hb.frozen (p := ⟨V.heap.size, q, none⟩) (by show V.heap.size < _; simp); have HRX := Lib.hid (Room.below (show Room (World.drew (V.alloc (.cells #[.int .i64 0, .int .i64 0, .int .i64 0] 23))) V.heap.size 1 from Room.new' rfl rfl) hb (by simp)); clear ho hb))
                    all_goals (clear b0 b1 b2 b3 b4 b5 p0 p1 p2 p3 p4 p5 q0 q1 q2 q3 q4 q5; first | clear r0 r1 r2 r3 r4 r5 | clear s0 s1 s2 s3 s4 s5)
                    · have hsL := HT.out.below.size
                      have hsA2 := HT.out.hA
                      have hsB2 := HT.out.hB
                      obtain ⟨U, hW⟩ : ∃ W, W = w6.alloc (.cells #[.int .i64 (fTimes (a.get k) (b.get i)).1.re, .int .i64 (fTimes (a.get k) (b.get i)).1.im, .int .i64 (fTimes (a.get k) (b.get i)).1.den] 23) := ⟨_, rfl⟩
                      have HT : Hid (ARel w (w.heap.size) (w.heap.size + 1) a b i k U) := by rw [hW]; exact HT.out.alloc _
                      have HYy : Hid (BoxAt U w6.heap.size (fun _ => (fTimes (a.get k) (b.get i)).1) 1) := by rw [hW]; exact BoxAt.new _ _ _ _ _ (src1 (fTimes (a.get k) (b.get i)).1)
                      have hzHYy : w6.heap.size < U.heap.size := by rw [hW]; simp
                      have HXx : Hid (BoxAt U wr.heap.size (fun _ => (fTimes (a.get i) (b.get k)).1) 1) := by rw [hW]; exact HXx.out.alloc (by omega) _
                      have hzHXx : wr.heap.size < U.heap.size := by rw [hW]; simp; omega
                      rw [← hW]
                      clear hW hsA hsB hsA2 hsB2 hsL
                      have x0 : U.cell? ⟨wr.heap.size, 0, none⟩ = some (.int .i64 (fTimes (a.get i) (b.get k)).1.re) := (HXx.out 0 (by omega)).1
                      have x1 : U.cell? ⟨wr.heap.size, 1, none⟩ = some (.int .i64 (fTimes (a.get i) (b.get k)).1.im) := (HXx.out 0 (by omega)).2.1
                      have x2 : U.cell? ⟨wr.heap.size, 2, none⟩ = some (.int .i64 (fTimes (a.get i) (b.get k)).1.den) := (HXx.out 0 (by omega)).2.2
                      have y0 : U.cell? ⟨w6.heap.size, 0, none⟩ = some (.int .i64 (fTimes (a.get k) (b.get i)).1.re) := (HYy.out 0 (by omega)).1
                      have y1 : U.cell? ⟨w6.heap.size, 1, none⟩ = some (.int .i64 (fTimes (a.get k) (b.get i)).1.im) := (HYy.out 0 (by omega)).2.1
                      have y2 : U.cell? ⟨w6.heap.size, 2, none⟩ = some (.int .i64 (fTimes (a.get k) (b.get i)).1.den) := (HYy.out 0 (by omega)).2.2
                      cases c1 : (fTimes (a.get i) (b.get k)).2
                      · have HG := Lib.hid (alB_bad hk h4 (show gpB a b i k = false by unfold gpB; rw [c1]; rfl))
                        have HB := Lib.hid HT.out.below
                        clear HT HXx HYy
                        go_wp2
                        go_ret
                        exact ⟨by rw [HG0.out, HG.out]; rfl, HB.out⟩
                      · cases c2 : (fTimes (a.get k) (b.get i)).2
                        · have HG := Lib.hid (alB_bad hk h4 (show gpB a b i k = false by unfold gpB; rw [c2]; simp))
                          have HB := Lib.hid HT.out.below
                          clear HT HXx HYy
                          go_wp2
                          go_ret
                          exact ⟨by rw [HG0.out, HG.out]; rfl, HB.out⟩
                        · by_cases e1 : (fTimes (a.get i) (b.get k)).1.re = (fTimes (a.get k) (b.get i)).1.re
                          case neg =>
                            have HG := Lib.hid (alB_bad hk h4 (show gpB a b i k = false by unfold gpB frEq; simp [e1]))
                            have HB := Lib.hid HT.out.below
                            clear HT HXx HYy
                            go_wp2
                            go_ret
                            exact ⟨by rw [HG0.out, HG.out]; rfl, HB.out⟩
                          by_cases e2 : (fTimes (a.get i) (b.get k)).1.im = (fTimes (a.get k) (b.get i)).1.im
                          case neg =>
                            have HG := Lib.hid (alB_bad hk h4 (show gpB a b i k = false by unfold gpB frEq; simp [e2]))
                            have HB := Lib.hid HT.out.below
                            clear HT HXx HYy
                            go_wp2
                            go_ret
                            exact ⟨by rw [HG0.out, HG.out]; rfl, HB.out⟩
                          by_cases e3 : (fTimes (a.get i) (b.get k)).1.den = (fTimes (a.get k) (b.get i)).1.den
                          case neg =>
                            have HG := Lib.hid (alB_bad hk h4 (show gpB a b i k = false by unfold gpB frEq; simp [e3]))
                            have HB := Lib.hid HT.out.below
                            clear HT HXx HYy
                            go_wp2
                            go_ret
                            exact ⟨by rw [HG0.out, HG.out]; rfl, HB.out⟩
                          have HS := Lib.hid (HT.out.step hk (show gpB a b i k = true by unfold gpB frEq; rw [c1, c2]; simp [e1, e2, e3]))
                          clear HT HXx HYy
                          go_wp2
                          go_roundw
                          case rel => exact ⟨k + 1, by go_num, HS.out⟩
                          case measure => simp [intOf]; omega
                    · have hsL := HT.out.below.size
                      have hsA2 := HT.out.hA
                      have hsB2 := HT.out.hB
                      obtain ⟨U, hW⟩ : ∃ W, W = ((w6.setCell ⟨V.heap.size, 0, none⟩ (.int .i64 (fTimes (a.get k) (b.get i)).1.re)).setCell ⟨V.heap.size, 1, none⟩ (.int .i64 (fTimes (a.get k) (b.get i)).1.im)).setCell ⟨V.heap.size, 2, none⟩ (.int .i64 (fTimes (a.get k) (b.get i)).1.den) := ⟨_, rfl⟩
                      have HT : Hid (ARel w (w.heap.size) (w.heap.size + 1) a b i k U) := by rw [hW]; exact HT.out.other (by omega) (by omega) (by omega) (fTimes (a.get k) (b.get i)).1
                      have HYy : Hid (BoxAt U V.heap.size (fun _ => (fTimes (a.get k) (b.get i)).1) 1) := by rw [hW]; exact BoxAt.put (g := fun _ => (fTimes (a.get k) (b.get i)).1) (k := 0) (fun k hk => absurd hk (by omega)) HRX.out (by omega)
                      have hzHYy : V.heap.size < U.heap.size := by rw [hW]; simp; omega
                      have HXx : Hid (BoxAt U wr.heap.size (fun _ => (fTimes (a.get i) (b.get k)).1) 1) := by rw [hW]; exact HXx.out.put_other (M := V.heap.size) (by omega) 0 (fTimes (a.get k) (b.get i)).1
                      have hzHXx : wr.heap.size < U.heap.size := by rw [hW]; simp; omega
                      clear hxB hxF HRX
                      rw [← hW]
                      clear hW hsA hsB hsA2 hsB2 hsL
                      have x0 : U.cell? ⟨wr.heap.size, 0, none⟩ = some (.int .i64 (fTimes (a.get i) (b.get k)).1.re) := (HXx.out 0 (by omega)).1
                      have x1 : U.cell? ⟨wr.heap.size, 1, none⟩ = some (.int .i64 (fTimes (a.get i) (b.get k)).1.im) := (HXx.out 0 (by omega)).2.1
                      have x2 : U.cell? ⟨wr.heap.size, 2, none⟩ = some (.int .i64 (fTimes (a.get i) (b.get k)).1.den) := (HXx.out 0 (by omega)).2.2
                      have y0 : U.cell? ⟨V.heap.size, 0, none⟩ = some (.int .i64 (fTimes (a.get k) (b.get i)).1.re) := (HYy.out 0 (by omega)).1
                      have y1 : U.cell? ⟨V.heap.size, 1, none⟩ = some (.int .i64 (fTimes (a.get k) (b.get i)).1.im) := (HYy.out 0 (by omega)).2.1
                      have y2 : U.cell? ⟨V.heap.size, 2, none⟩ = some (.int .i64 (fTimes (a.get k) (b.get i)).1.den) := (HYy.out 0 (by omega)).2.2
                      cases c1 : (fTimes (a.get i) (b.get k)).2
                      · have HG := Lib.hid (alB_bad hk h4 (show gpB a b i k = false by unfold gpB; rw [c1]; rfl))
                        have HB := Lib.hid HT.out.below
                        clear HT HXx HYy
                        go_wp2
                        go_ret
                        exact ⟨by rw [HG0.out, HG.out]; rfl, HB.out⟩
                      · cases c2 : (fTimes (a.get k) (b.get i)).2
                        · have HG := Lib.hid (alB_bad hk h4 (show gpB a b i k = false by unfold gpB; rw [c2]; simp))
                          have HB := Lib.hid HT.out.below
                          clear HT HXx HYy
                          go_wp2
                          go_ret
                          exact ⟨by rw [HG0.out, HG.out]; rfl, HB.out⟩
                        · by_cases e1 : (fTimes (a.get i) (b.get k)).1.re = (fTimes (a.get k) (b.get i)).1.re
                          case neg =>
                            have HG := Lib.hid (alB_bad hk h4 (show gpB a b i k = false by unfold gpB frEq; simp [e1]))
                            have HB := Lib.hid HT.out.below
                            clear HT HXx HYy
                            go_wp2
                            go_ret
                            exact ⟨by rw [HG0.out, HG.out]; rfl, HB.out⟩
                          by_cases e2 : (fTimes (a.get i) (b.get k)).1.im = (fTimes (a.get k) (b.get i)).1.im
                          case neg =>
                            have HG := Lib.hid (alB_bad hk h4 (show gpB a b i k = false by unfold gpB frEq; simp [e2]))
                            have HB := Lib.hid HT.out.below
                            clear HT HXx HYy
                            go_wp2
                            go_ret
                            exact ⟨by rw [HG0.out, HG.out]; rfl, HB.out⟩
                          by_cases e3 : (fTimes (a.get i) (b.get k)).1.den = (fTimes (a.get k) (b.get i)).1.den
                          case neg =>
                            have HG := Lib.hid (alB_bad hk h4 (show gpB a b i k = false by unfold gpB frEq; simp [e3]))
                            have HB := Lib.hid HT.out.below
                            clear HT HXx HYy
                            go_wp2
                            go_ret
                            exact ⟨by rw [HG0.out, HG.out]; rfl, HB.out⟩
                          have HS := Lib.hid (HT.out.step hk (show gpB a b i k = true by unfold gpB frEq; rw [c1, c2]; simp [e1, e2, e3]))
                          clear HT HXx HYy
                          go_wp2
                          go_roundw
                          case rel => exact ⟨k + 1, by go_num, HS.out⟩
                          case measure => simp [intOf]; omega
                · obtain rfl : k = i := by have := hT.lk; omega
                  go_wp2
                  go_roundw
                  case rel => exact ⟨k + 1, by go_num, hT.row h4⟩
                  case measure => simp [intOf]; omega
            · obtain rfl : i = 4 := by have := hT.le; omega
              have HG : Hid (alB a b = true) := alB_all (fun p q hq hp => hT.good p q hq (Or.inl hp))
              go_wp2
              go_ret
              exact ⟨by rw [HG0.out, HG.out]; rfl, hT.below⟩
end Go.Proofs.YtmcokdiopcpifaaDoor
