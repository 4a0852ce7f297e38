/- Contracts: a draw of two that are often alike (Mat). -/
import Derived.Test.YtmcokdiopcpifaaDoorMsG28
import Derived.Test.YtmcokdiopcpifaaDoorMsDM2
import Derived.Test.YtmcokdiopcpifaaDoorMsK3
import Derived.Deep.DeepCutAuto
import Derived.Deep.RegionHeld3
set_option maxRecDepth 100000
namespace Go.Proofs.YtmcokdiopcpifaaDoor
open Go.RowKit Pol
set_option maxRecDepth 100000 in
set_option maxHeartbeats 40000000 in
theorem DrawMatAlike_any (a0 : Option Addr) (len cap : Nat) (w : World) (hc : len ≤ cap) (HC : Code w.heap.size w a0 len) :
    Calls Tryd.prog 59 #[.slice a0 len cap] w (SSOut w) := by
  have HM0 : Hid (Room ((w.alloc (.cells #[.int .i64 0, .int .i64 0, .int .i64 0, .int .i64 0, .int .i64 0, .int .i64 0, .int .i64 0, .int .i64 0, .int .i64 0, .int .i64 0, .int .i64 0, .int .i64 0] 41)).alloc (.cells #[.int .i64 0, .int .i64 0, .int .i64 0, .int .i64 0, .int .i64 0, .int .i64 0, .int .i64 0, .int .i64 0, .int .i64 0, .int .i64 0, .int .i64 0, .int .i64 0] 41)) (w.heap.size) 4) := by show Room _ _ _; exact (Room.new' rfl rfl).alloc (by simp) _
  have HM1 : Hid (Room ((w.alloc (.cells #[.int .i64 0, .int .i64 0, .int .i64 0, .int .i64 0, .int .i64 0, .int .i64 0, .int .i64 0, .int .i64 0, .int .i64 0, .int .i64 0, .int .i64 0, .int .i64 0] 41)).alloc (.cells #[.int .i64 0, .int .i64 0, .int .i64 0, .int .i64 0, .int .i64 0, .int .i64 0, .int .i64 0, .int .i64 0, .int .i64 0, .int .i64 0, .int .i64 0, .int .i64 0] 41)) (w.heap.size + 1) 4) := by show Room _ _ _; exact Room.new' (by simp) rfl
  have HB : Hid (Below w.heap.size w ((w.alloc (.cells #[.int .i64 0, .int .i64 0, .int .i64 0, .int .i64 0, .int .i64 0, .int .i64 0, .int .i64 0, .int .i64 0, .int .i64 0, .int .i64 0, .int .i64 0, .int .i64 0] 41)).alloc (.cells #[.int .i64 0, .int .i64 0, .int .i64 0, .int .i64 0, .int .i64 0, .int .i64 0, .int .i64 0, .int .i64 0, .int .i64 0, .int .i64 0, .int .i64 0, .int .i64 0] 41))) := by show Below _ _ _; (repeat' first | exact Below.refl _ _ | apply bl_alloc | apply bl_drewN | apply bl_drew | refine bl_trans ?_ (by assumption) | refine bl_set ?_ (by first | omega | (simp <;> omega)) _)
  have HC1 : Code w.heap.size ((w.alloc (.cells #[.int .i64 0, .int .i64 0, .int .i64 0, .int .i64 0, .int .i64 0, .int .i64 0, .int .i64 0, .int .i64 0, .int .i64 0, .int .i64 0, .int .i64 0, .int .i64 0] 41)).alloc (.cells #[.int .i64 0, .int .i64 0, .int .i64 0, .int .i64 0, .int .i64 0, .int .i64 0, .int .i64 0, .int .i64 0, .int .i64 0, .int .i64 0, .int .i64 0, .int .i64 0] 41)) a0 len := fun i hi => by
    obtain ⟨B, off, h1, h2, z, h3, h4, h5⟩ := HC i hi
    exact ⟨B, off, h1, h2, z, h3, h4, (World.cell?_alloc_old _ _ _ (by show B ≠ _; rw [World.size_alloc]; omega)).trans ((World.cell?_alloc_old _ _ _ (by show B ≠ w.heap.size; omega)).trans h5)⟩
  go_enter Tryd.func59, Tryd.ntmps59
  go_wp2_with fail
  refine (open_any w.heap.size a0 len cap _ (by simp) hc HC1).mono ?_
  rintro e w1 ⟨R, len', rfl, hb, hRb, hR⟩
  have hz1 := hb.size
  (try simp at hz1)
  (try simp at hRb)
  have K : Hid (RX w R a0 len' cap 0 (w.heap.size) 4 (w.heap.size + 1) 4 [] w1) := by
    show RX _ _ _ _ _ _ _ _ _ _ _ _
    exact ⟨HB.out.trans (hb.mono HB.out.size), hR, by omega, by omega, by omega, by omega, HM0.out.below hb (by simp), HM1.out.below hb (by simp), fun e he => by cases he⟩
  clear HM0 HM1 HB HC1 hb hR HC
  go_wp2_with fail
  refine (l91Mat_any (Nat.le_of_ble_eq_true rfl) K.out.rd).mono ?_
  rintro e w2 ⟨v, rfl, ⟨a, rfl⟩, hO, hR⟩
  have hz2 := hO.size
  have hRl := K.out.rd.lt
  have K := Lib.hid (K.out.own hO hR)
  clear hO hR
  obtain ⟨V, hV⟩ : ∃ V, V = (w2.alloc (.cells #[.int .i64 a.a.re, .int .i64 a.a.im, .int .i64 a.a.den, .int .i64 a.b.re, .int .i64 a.b.im, .int .i64 a.b.den, .int .i64 a.c.re, .int .i64 a.c.im, .int .i64 a.c.den, .int .i64 a.d.re, .int .i64 a.d.im, .int .i64 a.d.den] 41)) := ⟨_, rfl⟩
  have K : Hid (RX w R a0 len' cap (0 + 100) (w.heap.size) 4 (w.heap.size + 1) 4 [(w2.heap.size, [.int .i64 a.a.re, .int .i64 a.a.im, .int .i64 a.a.den, .int .i64 a.b.re, .int .i64 a.b.im, .int .i64 a.b.den, .int .i64 a.c.re, .int .i64 a.c.im, .int .i64 a.c.den, .int .i64 a.d.re, .int .i64 a.d.im, .int .i64 a.d.den])] V) := by
    show RX _ _ _ _ _ _ _ _ _ _ _ _
    rw [hV]
    exact (K.out.alloc _).add (by simp) (by omega) (rangeAt_new _ _ _)
  have hzV : w2.heap.size < V.heap.size := by rw [hV]; simp
  go_upto_region 3 with fail
  rw [← hV]
  clear hV
  have nRV : R < V.heap.size := by omega
  go_cut [6, 7] (fun s6 s7 wx => ∃ (D : Nat) (o : M4) (q : Bool), s6 = .pointer (some ⟨D, 0, none⟩) ∧ s7 = .bool q ∧ w2.heap.size < D ∧ RX w R a0 len' cap ((0 + 100) + 8) (w.heap.size) 4 (w.heap.size + 1) 4 ((D, [.int .i64 o.a.re, .int .i64 o.a.im, .int .i64 o.a.den, .int .i64 o.b.re, .int .i64 o.b.im, .int .i64 o.b.den, .int .i64 o.c.re, .int .i64 o.c.im, .int .i64 o.c.den, .int .i64 o.d.re, .int .i64 o.d.im, .int .i64 o.d.den]) :: [(w2.heap.size, [.int .i64 a.a.re, .int .i64 a.a.im, .int .i64 a.a.den, .int .i64 a.b.re, .int .i64 a.b.im, .int .i64 a.b.den, .int .i64 a.c.re, .int .i64 a.c.im, .int .i64 a.c.den, .int .i64 a.d.re, .int .i64 a.d.im, .int .i64 a.d.den])]) wx)
  case first =>
    have K0 := Lib.hid K.out.drew
    refine wp_region_held_drew (S := (fun w' => w'.cell? ⟨w2.heap.size, 0, none⟩ = some (.int .i64 a.a.re) ∧ w'.cell? ⟨w2.heap.size, 1, none⟩ = some (.int .i64 a.a.im) ∧ w'.cell? ⟨w2.heap.size, 2, none⟩ = some (.int .i64 a.a.den) ∧ w'.cell? ⟨w2.heap.size, 3, none⟩ = some (.int .i64 a.b.re) ∧ w'.cell? ⟨w2.heap.size, 4, none⟩ = some (.int .i64 a.b.im) ∧ w'.cell? ⟨w2.heap.size, 5, none⟩ = some (.int .i64 a.b.den) ∧ w'.cell? ⟨w2.heap.size, 6, none⟩ = some (.int .i64 a.c.re) ∧ w'.cell? ⟨w2.heap.size, 7, none⟩ = some (.int .i64 a.c.im) ∧ w'.cell? ⟨w2.heap.size, 8, none⟩ = some (.int .i64 a.c.den) ∧ w'.cell? ⟨w2.heap.size, 9, none⟩ = some (.int .i64 a.d.re) ∧ w'.cell? ⟨w2.heap.size, 10, none⟩ = some (.int .i64 a.d.im) ∧ w'.cell? ⟨w2.heap.size, 11, none⟩ = some (.int .i64 a.d.den))) (by kernel_rfl) (cellsM (K0.out.box (w2.heap.size, [.int .i64 a.a.re, .int .i64 a.a.im, .int .i64 a.a.den, .int .i64 a.b.re, .int .i64 a.b.im, .int .i64 a.b.den, .int .i64 a.c.re, .int .i64 a.c.im, .int .i64 a.c.den, .int .i64 a.d.re, .int .i64 a.d.im, .int .i64 a.d.den]) (by simp)).2) (fun hHeld => ?_)
    refine wpAnyH_take (i := 0) (v := ?_) rfl (by kernel_rfl) (by kernel_rfl) (by kernel_rfl) (fun _ _ _ h => h) (Or.inl ⟨by rfl, ?_⟩) (by assumption) ?_
    rotate_left
    (focus (intro w hSw; (try dsimp only at hSw); go_simp; (try with_reducible rfl)))
    (try simp only [Act.put, List.getElem_toArray, List.getElem_cons_zero, List.setIfInBounds_toArray, List.set_cons_zero, List.set_cons_succ])
    refine wpAnyH_take (i := 1) (v := ?_) rfl (by kernel_rfl) (by kernel_rfl) (by kernel_rfl) (fun _ _ _ h => h) (Or.inl ⟨by rfl, ?_⟩) (by assumption) ?_
    rotate_left
    (focus (intro w hSw; (try dsimp only at hSw); go_simp; (try with_reducible rfl)))
    (try simp only [Act.put, List.getElem_toArray, List.getElem_cons_succ, List.getElem_cons_zero, List.setIfInBounds_toArray, List.set_cons_zero, List.set_cons_succ])
    refine wpAnyH_ready (rs := [2, 7]) (by kernel_rfl) (by simp) ?_
    refine AllReadyH.cons rfl (fun Kp hK => ?_) (AllReadyH.cons rfl (fun Kp hK => ?_) AllReadyH.nil)
    · skip
      go_simp
      go_at_call 84
      (with_reducible refine Calls.mono (l91Frac_any (N := w.heap.size) (R := R) (a0 := a0) (len := len') (cap := cap) (k := (0 + 100)) (Nat.le_of_ble_eq_true rfl) K0.out.rd) ?_)
      rintro e w5 ⟨v, rfl, ⟨c, rfl⟩, hO, hR⟩
      have hz5 := hO.size
      (try simp at hz5)
      have K5 := Lib.hid (K0.out.own hO hR)
      clear hO hR
      refine hK.out _ _ (cellsM (K5.out.box (w2.heap.size, [.int .i64 a.a.re, .int .i64 a.a.im, .int .i64 a.a.den, .int .i64 a.b.re, .int .i64 a.b.im, .int .i64 a.b.den, .int .i64 a.c.re, .int .i64 a.c.im, .int .i64 a.c.den, .int .i64 a.d.re, .int .i64 a.d.im, .int .i64 a.d.den]) (by simp)).2) (fun hHeld => ?_)
      clear hK Kp
      (try simp only [Act.put, List.getElem_toArray, List.getElem_cons_succ, List.getElem_cons_zero, List.setIfInBounds_toArray, List.set_cons_zero, List.set_cons_succ])
      refine wpAnyH_ready (rs := [3, 7]) (by kernel_rfl) (by simp) ?_
      refine AllReadyH.cons rfl (fun Kp hK => ?_) (AllReadyH.cons rfl (fun Kp hK => ?_) AllReadyH.nil)
      · skip
        go_simp
        go_at_call 58
        (with_reducible refine (ssca_any a c _).mono ?_)
        rintro e w6 ho
        obtain ⟨rfl, hb⟩ := ho.fn
        have hz6 := hb.size
        (try simp at hz6)
        have K6 := Lib.hid (K5.out.next hb)
        clear ho hb
        refine hK.out _ _ (cellsM (K6.out.box (w2.heap.size, [.int .i64 a.a.re, .int .i64 a.a.im, .int .i64 a.a.den, .int .i64 a.b.re, .int .i64 a.b.im, .int .i64 a.b.den, .int .i64 a.c.re, .int .i64 a.c.im, .int .i64 a.c.den, .int .i64 a.d.re, .int .i64 a.d.im, .int .i64 a.d.den]) (by simp)).2) (fun hHeld => ?_)
        clear hK Kp
        (try simp only [Act.put, List.getElem_toArray, List.getElem_cons_succ, List.getElem_cons_zero, List.setIfInBounds_toArray, List.set_cons_zero, List.set_cons_succ])
        refine wpAnyH_take (i := 4) (v := ?_) rfl (by kernel_rfl) (by kernel_rfl) (by kernel_rfl) (fun _ _ _ h => h) (Or.inl ⟨by rfl, ?_⟩) (by assumption) ?_
        rotate_left
        (focus (intro w hSw; (try dsimp only at hSw); go_simp; (try with_reducible rfl)))
        (try simp only [Act.put, List.getElem_toArray, List.getElem_cons_succ, List.getElem_cons_zero, List.setIfInBounds_toArray, List.set_cons_zero, List.set_cons_succ])
        refine wpAnyH_take (i := 5) (v := ?_) rfl (by kernel_rfl) (by kernel_rfl) (by kernel_rfl) (fun _ _ _ h => h) (Or.inl ⟨by rfl, ?_⟩) (by assumption) ?_
        rotate_left
        (focus (intro w hSw; (try dsimp only at hSw); go_simp; (try with_reducible rfl)))
        (try simp only [Act.put, List.getElem_toArray, List.getElem_cons_succ, List.getElem_cons_zero, List.setIfInBounds_toArray, List.set_cons_zero, List.set_cons_succ])
        refine wpAnyH_take (i := 6) (v := ?_) rfl (by kernel_rfl) (by kernel_rfl) (by kernel_rfl) (fun _ _ _ h => h) (Or.inl ⟨by rfl, ?_⟩) (by assumption) ?_
        rotate_left
        (focus (intro w hSw; (try dsimp only at hSw); go_simp; (try with_reducible rfl)))
        (try simp only [Act.put, List.getElem_toArray, List.getElem_cons_succ, List.getElem_cons_zero, List.setIfInBounds_toArray, List.set_cons_zero, List.set_cons_succ])
        refine wpAnyH_ready (rs := [7]) (by kernel_rfl) (by simp) ?_
        refine AllReadyH.cons rfl (fun Kp hK => ?_) AllReadyH.nil
        go_simp
        refine hK.out _ _ (cellsM ((K6.out.alloc _).box (w2.heap.size, [.int .i64 a.a.re, .int .i64 a.a.im, .int .i64 a.a.den, .int .i64 a.b.re, .int .i64 a.b.im, .int .i64 a.b.den, .int .i64 a.c.re, .int .i64 a.c.im, .int .i64 a.c.den, .int .i64 a.d.re, .int .i64 a.d.im, .int .i64 a.d.den]) (by simp)).2) (fun hHeld => ?_)
        clear hK Kp
        (try simp only [Act.put, List.getElem_toArray, List.getElem_cons_succ, List.getElem_cons_zero, List.setIfInBounds_toArray, List.set_cons_zero, List.set_cons_succ])
        have KN := Lib.hid ((K6.out.alloc (.cells #[.int .i64 (mSca a c).1.a.re, .int .i64 (mSca a c).1.a.im, .int .i64 (mSca a c).1.a.den, .int .i64 (mSca a c).1.b.re, .int .i64 (mSca a c).1.b.im, .int .i64 (mSca a c).1.b.den, .int .i64 (mSca a c).1.c.re, .int .i64 (mSca a c).1.c.im, .int .i64 (mSca a c).1.c.den, .int .i64 (mSca a c).1.d.re, .int .i64 (mSca a c).1.d.im, .int .i64 (mSca a c).1.d.den] 41)).add (D := w6.heap.size) (l := [.int .i64 (mSca a c).1.a.re, .int .i64 (mSca a c).1.a.im, .int .i64 (mSca a c).1.a.den, .int .i64 (mSca a c).1.b.re, .int .i64 (mSca a c).1.b.im, .int .i64 (mSca a c).1.b.den, .int .i64 (mSca a c).1.c.re, .int .i64 (mSca a c).1.c.im, .int .i64 (mSca a c).1.c.den, .int .i64 (mSca a c).1.d.re, .int .i64 (mSca a c).1.d.im, .int .i64 (mSca a c).1.d.den]) (by simp) (by omega) (rangeAt_new _ _ _))
        refine wpAnyH_ready (rs := [8]) (by kernel_rfl) (by simp) ?_
        refine AllReadyH.cons rfl (fun Kp hK => ?_) AllReadyH.nil
        go_simp
        refine hK.out _ _ (cellsM (KN.out.box (w2.heap.size, [.int .i64 a.a.re, .int .i64 a.a.im, .int .i64 a.a.den, .int .i64 a.b.re, .int .i64 a.b.im, .int .i64 a.b.den, .int .i64 a.c.re, .int .i64 a.c.im, .int .i64 a.c.den, .int .i64 a.d.re, .int .i64 a.d.im, .int .i64 a.d.den]) (by simp)).2) (fun hHeld => ?_)
        clear hK Kp
        (try simp only [Act.put, List.getElem_toArray, List.getElem_cons_succ, List.getElem_cons_zero, List.setIfInBounds_toArray, List.set_cons_zero, List.set_cons_succ])
        refine wpAnyH_take (i := 9) (v := ?_) rfl (by kernel_rfl) (by kernel_rfl) (by kernel_rfl) (fun _ _ _ h => h) (Or.inl ⟨by rfl, ?_⟩) (by assumption) ?_
        rotate_left
        (focus (intro w hSw; (try dsimp only at hSw); go_simp; (try with_reducible rfl)))
        (try simp only [Act.put, List.getElem_toArray, List.getElem_cons_succ, List.getElem_cons_zero, List.setIfInBounds_toArray, List.set_cons_zero, List.set_cons_succ])
        refine wpAnyH_done (by kernel_rfl) ?_ _
        clear hHeld
        go_wp2_with fail
        go_meet
        exact ⟨w6.heap.size, (mSca a c).1, (mSca a c).2, rfl, rfl, by omega, KN.out⟩
      · skip
        go_simp
        refine hK.out _ _ (cellsM ((K5.out.alloc _).box (w2.heap.size, [.int .i64 a.a.re, .int .i64 a.a.im, .int .i64 a.a.den, .int .i64 a.b.re, .int .i64 a.b.im, .int .i64 a.b.den, .int .i64 a.c.re, .int .i64 a.c.im, .int .i64 a.c.den, .int .i64 a.d.re, .int .i64 a.d.im, .int .i64 a.d.den]) (by simp)).2) (fun hHeld => ?_)
        clear hK Kp
        (try simp only [Act.put, List.getElem_toArray, List.getElem_cons_succ, List.getElem_cons_zero, List.setIfInBounds_toArray, List.set_cons_zero, List.set_cons_succ])
        refine wpAnyH_ready (rs := [3]) (by kernel_rfl) (by simp) ?_
        refine AllReadyH.cons rfl (fun Kp hK => ?_) AllReadyH.nil
        go_simp
        go_at_call 58
        (with_reducible refine (ssca_any a c _).mono ?_)
        rintro e w6 ho
        obtain ⟨rfl, hb⟩ := ho.fn
        have hz6 := hb.size
        (try simp at hz6)
        have RD := Lib.hid ((Room.new' (w := w5) (cs := #[.int .i64 0, .int .i64 0, .int .i64 0, .int .i64 0, .int .i64 0, .int .i64 0, .int .i64 0, .int .i64 0, .int .i64 0, .int .i64 0, .int .i64 0, .int .i64 0]) (t := 41) (n := 4) rfl rfl).below hb (by simp))
        have K6 := Lib.hid ((K5.out.alloc _).next hb)
        clear ho hb
        refine hK.out _ _ (cellsM (K6.out.box (w2.heap.size, [.int .i64 a.a.re, .int .i64 a.a.im, .int .i64 a.a.den, .int .i64 a.b.re, .int .i64 a.b.im, .int .i64 a.b.den, .int .i64 a.c.re, .int .i64 a.c.im, .int .i64 a.c.den, .int .i64 a.d.re, .int .i64 a.d.im, .int .i64 a.d.den]) (by simp)).2) (fun hHeld => ?_)
        clear hK Kp
        (try simp only [Act.put, List.getElem_toArray, List.getElem_cons_succ, List.getElem_cons_zero, List.setIfInBounds_toArray, List.set_cons_zero, List.set_cons_succ])
        refine wpAnyH_take (i := 4) (v := ?_) rfl (by kernel_rfl) (by kernel_rfl) (by kernel_rfl) (fun _ _ _ h => h) (Or.inl ⟨by rfl, ?_⟩) (by assumption) ?_
        rotate_left
        (focus (intro w hSw; (try dsimp only at hSw); go_simp; (try with_reducible rfl)))
        (try simp only [Act.put, List.getElem_toArray, List.getElem_cons_succ, List.getElem_cons_zero, List.setIfInBounds_toArray, List.set_cons_zero, List.set_cons_succ])
        refine wpAnyH_take (i := 5) (v := ?_) rfl (by kernel_rfl) (by kernel_rfl) (by kernel_rfl) (fun _ _ _ h => h) (Or.inl ⟨by rfl, ?_⟩) (by assumption) ?_
        rotate_left
        (focus (intro w hSw; (try dsimp only at hSw); go_simp; (try with_reducible rfl)))
        (try simp only [Act.put, List.getElem_toArray, List.getElem_cons_succ, List.getElem_cons_zero, List.setIfInBounds_toArray, List.set_cons_zero, List.set_cons_succ])
        refine wpAnyH_take (i := 6) (v := ?_) rfl (by kernel_rfl) (by kernel_rfl) (by kernel_rfl) (fun _ _ _ h => h) (Or.inl ⟨by rfl, ?_⟩) (by assumption) ?_
        rotate_left
        (focus (intro w hSw; (try dsimp only at hSw); go_simp; (try with_reducible rfl)))
        (try simp only [Act.put, List.getElem_toArray, List.getElem_cons_succ, List.getElem_cons_zero, List.setIfInBounds_toArray, List.set_cons_zero, List.set_cons_succ])
        obtain ⟨y0, e0⟩ := Option.isSome_iff_exists.1 (RD.out 0 (by omega)).1
        have fq0 := (RD.out 0 (by omega)).2
        obtain ⟨y1, e1⟩ := Option.isSome_iff_exists.1 (RD.out 1 (by omega)).1
        have fq1 := (RD.out 1 (by omega)).2
        obtain ⟨y2, e2⟩ := Option.isSome_iff_exists.1 (RD.out 2 (by omega)).1
        have fq2 := (RD.out 2 (by omega)).2
        obtain ⟨y3, e3⟩ := Option.isSome_iff_exists.1 (RD.out 3 (by omega)).1
        have fq3 := (RD.out 3 (by omega)).2
        obtain ⟨y4, e4⟩ := Option.isSome_iff_exists.1 (RD.out 4 (by omega)).1
        have fq4 := (RD.out 4 (by omega)).2
        obtain ⟨y5, e5⟩ := Option.isSome_iff_exists.1 (RD.out 5 (by omega)).1
        have fq5 := (RD.out 5 (by omega)).2
        obtain ⟨y6, e6⟩ := Option.isSome_iff_exists.1 (RD.out 6 (by omega)).1
        have fq6 := (RD.out 6 (by omega)).2
        obtain ⟨y7, e7⟩ := Option.isSome_iff_exists.1 (RD.out 7 (by omega)).1
        have fq7 := (RD.out 7 (by omega)).2
        obtain ⟨y8, e8⟩ := Option.isSome_iff_exists.1 (RD.out 8 (by omega)).1
        have fq8 := (RD.out 8 (by omega)).2
        obtain ⟨y9, e9⟩ := Option.isSome_iff_exists.1 (RD.out 9 (by omega)).1
        have fq9 := (RD.out 9 (by omega)).2
        obtain ⟨y10, e10⟩ := Option.isSome_iff_exists.1 (RD.out 10 (by omega)).1
        have fq10 := (RD.out 10 (by omega)).2
        obtain ⟨y11, e11⟩ := Option.isSome_iff_exists.1 (RD.out 11 (by omega)).1
        have fq11 := (RD.out 11 (by omega)).2
        have KS := Lib.hid (K6.out.store (D := w5.heap.size) (by intro e he; obtain rfl := List.mem_singleton.1 he; show w2.heap.size ≠ _; omega) (by omega) (by omega) [.int .i64 (mSca a c).1.a.re, .int .i64 (mSca a c).1.a.im, .int .i64 (mSca a c).1.a.den, .int .i64 (mSca a c).1.b.re, .int .i64 (mSca a c).1.b.im, .int .i64 (mSca a c).1.b.den, .int .i64 (mSca a c).1.c.re, .int .i64 (mSca a c).1.c.im, .int .i64 (mSca a c).1.c.den, .int .i64 (mSca a c).1.d.re, .int .i64 (mSca a c).1.d.im, .int .i64 (mSca a c).1.d.den])
        have KS := Lib.hid (by have hh := KS.out; simp only [World.setCells, Nat.zero_add, Nat.reduceAdd] at hh; exact hh)
        have hr := Lib.hid (by have hh := World.rangeAt_setCells_same w6 (w5.heap.size) 0 [.int .i64 (mSca a c).1.a.re, .int .i64 (mSca a c).1.a.im, .int .i64 (mSca a c).1.a.den, .int .i64 (mSca a c).1.b.re, .int .i64 (mSca a c).1.b.im, .int .i64 (mSca a c).1.b.den, .int .i64 (mSca a c).1.c.re, .int .i64 (mSca a c).1.c.im, .int .i64 (mSca a c).1.c.den, .int .i64 (mSca a c).1.d.re, .int .i64 (mSca a c).1.d.im, .int .i64 (mSca a c).1.d.den] RD.out.there; simp only [World.setCells, Nat.zero_add, Nat.reduceAdd] at hh; exact hh)
        have hl := RD.out.ltF (by omega)
        refine wpAnyH_ready (rs := [8]) (by kernel_rfl) (by simp) ?_
        refine AllReadyH.cons rfl (fun Kp hK => ?_) AllReadyH.nil
        go_simp
        refine hK.out _ _ (cellsM (KS.out.box (w2.heap.size, [.int .i64 a.a.re, .int .i64 a.a.im, .int .i64 a.a.den, .int .i64 a.b.re, .int .i64 a.b.im, .int .i64 a.b.den, .int .i64 a.c.re, .int .i64 a.c.im, .int .i64 a.c.den, .int .i64 a.d.re, .int .i64 a.d.im, .int .i64 a.d.den]) (by simp)).2) (fun hHeld => ?_)
        clear hK Kp
        (try simp only [Act.put, List.getElem_toArray, List.getElem_cons_succ, List.getElem_cons_zero, List.setIfInBounds_toArray, List.set_cons_zero, List.set_cons_succ])
        refine wpAnyH_take (i := 9) (v := ?_) rfl (by kernel_rfl) (by kernel_rfl) (by kernel_rfl) (fun _ _ _ h => h) (Or.inl ⟨by rfl, ?_⟩) (by assumption) ?_
        rotate_left
        (focus (intro w hSw; (try dsimp only at hSw); go_simp; (try with_reducible rfl)))
        (try simp only [Act.put, List.getElem_toArray, List.getElem_cons_succ, List.getElem_cons_zero, List.setIfInBounds_toArray, List.set_cons_zero, List.set_cons_succ])
        refine wpAnyH_done (by kernel_rfl) ?_ _
        clear hHeld
        go_wp2_with fail
        go_meet
        refine ⟨w5.heap.size, (mSca a c).1, (mSca a c).2, rfl, rfl, by omega, KS.out.add (by simpa using hl) (by omega) hr.out⟩
    · skip
      go_simp
      refine hK.out _ _ (cellsM ((K.out.alloc _).drew.box (w2.heap.size, [.int .i64 a.a.re, .int .i64 a.a.im, .int .i64 a.a.den, .int .i64 a.b.re, .int .i64 a.b.im, .int .i64 a.b.den, .int .i64 a.c.re, .int .i64 a.c.im, .int .i64 a.c.den, .int .i64 a.d.re, .int .i64 a.d.im, .int .i64 a.d.den]) (by simp)).2) (fun hHeld => ?_)
      clear hK Kp
      (try simp only [Act.put, List.getElem_toArray, List.getElem_cons_succ, List.getElem_cons_zero, List.setIfInBounds_toArray, List.set_cons_zero, List.set_cons_succ])
      refine wpAnyH_ready (rs := [2]) (by kernel_rfl) (by simp) ?_
      refine AllReadyH.cons rfl (fun Kp hK => ?_) AllReadyH.nil
      go_simp
      go_at_call 84
      (with_reducible refine Calls.mono (l91Frac_any (N := w.heap.size) (R := R) (a0 := a0) (len := len') (cap := cap) (k := (0 + 100)) (Nat.le_of_ble_eq_true rfl) (K.out.alloc _).drew.rd) ?_)
      rintro e w5 ⟨v, rfl, ⟨c, rfl⟩, hO, hR⟩
      have hz5 := hO.size
      (try simp at hz5)
      have RD := Lib.hid ((show Room (World.drew (V.alloc (.cells #[.int .i64 0, .int .i64 0, .int .i64 0, .int .i64 0, .int .i64 0, .int .i64 0, .int .i64 0, .int .i64 0, .int .i64 0, .int .i64 0, .int .i64 0, .int .i64 0] 41))) V.heap.size 4 from Room.new' rfl rfl).ownX hO (by show V.heap.size < _; simp) (by omega))
      have K5 := Lib.hid ((K.out.alloc _).drew.own hO hR)
      clear hO hR
      refine hK.out _ _ (cellsM (K5.out.box (w2.heap.size, [.int .i64 a.a.re, .int .i64 a.a.im, .int .i64 a.a.den, .int .i64 a.b.re, .int .i64 a.b.im, .int .i64 a.b.den, .int .i64 a.c.re, .int .i64 a.c.im, .int .i64 a.c.den, .int .i64 a.d.re, .int .i64 a.d.im, .int .i64 a.d.den]) (by simp)).2) (fun hHeld => ?_)
      clear hK Kp
      (try simp only [Act.put, List.getElem_toArray, List.getElem_cons_succ, List.getElem_cons_zero, List.setIfInBounds_toArray, List.set_cons_zero, List.set_cons_succ])
      refine wpAnyH_ready (rs := [3]) (by kernel_rfl) (by simp) ?_
      refine AllReadyH.cons rfl (fun Kp hK => ?_) AllReadyH.nil
      go_simp
      go_at_call 58
      (with_reducible refine (ssca_any a c _).mono ?_)
      rintro e w6 ho
      obtain ⟨rfl, hb⟩ := ho.fn
      have hz6 := hb.size
      (try simp at hz6)
      have RD := Lib.hid (RD.out.below hb (by omega))
      have K6 := Lib.hid (K5.out.next hb)
      clear ho hb
      refine hK.out _ _ (cellsM (K6.out.box (w2.heap.size, [.int .i64 a.a.re, .int .i64 a.a.im, .int .i64 a.a.den, .int .i64 a.b.re, .int .i64 a.b.im, .int .i64 a.b.den, .int .i64 a.c.re, .int .i64 a.c.im, .int .i64 a.c.den, .int .i64 a.d.re, .int .i64 a.d.im, .int .i64 a.d.den]) (by simp)).2) (fun hHeld => ?_)
      clear hK Kp
      (try simp only [Act.put, List.getElem_toArray, List.getElem_cons_succ, List.getElem_cons_zero, List.setIfInBounds_toArray, List.set_cons_zero, List.set_cons_succ])
      refine wpAnyH_take (i := 4) (v := ?_) rfl (by kernel_rfl) (by kernel_rfl) (by kernel_rfl) (fun _ _ _ h => h) (Or.inl ⟨by rfl, ?_⟩) (by assumption) ?_
      rotate_left
      (focus (intro w hSw; (try dsimp only at hSw); go_simp; (try with_reducible rfl)))
      (try simp only [Act.put, List.getElem_toArray, List.getElem_cons_succ, List.getElem_cons_zero, List.setIfInBounds_toArray, List.set_cons_zero, List.set_cons_succ])
      refine wpAnyH_take (i := 5) (v := ?_) rfl (by kernel_rfl) (by kernel_rfl) (by kernel_rfl) (fun _ _ _ h => h) (Or.inl ⟨by rfl, ?_⟩) (by assumption) ?_
      rotate_left
      (focus (intro w hSw; (try dsimp only at hSw); go_simp; (try with_reducible rfl)))
      (try simp only [Act.put, List.getElem_toArray, List.getElem_cons_succ, List.getElem_cons_zero, List.setIfInBounds_toArray, List.set_cons_zero, List.set_cons_succ])
      refine wpAnyH_take (i := 6) (v := ?_) rfl (by kernel_rfl) (by kernel_rfl) (by kernel_rfl) (fun _ _ _ h => h) (Or.inl ⟨by rfl, ?_⟩) (by assumption) ?_
      rotate_left
      (focus (intro w hSw; (try dsimp only at hSw); go_simp; (try with_reducible rfl)))
      (try simp only [Act.put, List.getElem_toArray, List.getElem_cons_succ, List.getElem_cons_zero, List.setIfInBounds_toArray, List.set_cons_zero, List.set_cons_succ])
      obtain ⟨y0, e0⟩ := Option.isSome_iff_exists.1 (RD.out 0 (by omega)).1
      have fq0 := (RD.out 0 (by omega)).2
      obtain ⟨y1, e1⟩ := Option.isSome_iff_exists.1 (RD.out 1 (by omega)).1
      have fq1 := (RD.out 1 (by omega)).2
      obtain ⟨y2, e2⟩ := Option.isSome_iff_exists.1 (RD.out 2 (by omega)).1
      have fq2 := (RD.out 2 (by omega)).2
      obtain ⟨y3, e3⟩ := Option.isSome_iff_exists.1 (RD.out 3 (by omega)).1
      have fq3 := (RD.out 3 (by omega)).2
      obtain ⟨y4, e4⟩ := Option.isSome_iff_exists.1 (RD.out 4 (by omega)).1
      have fq4 := (RD.out 4 (by omega)).2
      obtain ⟨y5, e5⟩ := Option.isSome_iff_exists.1 (RD.out 5 (by omega)).1
      have fq5 := (RD.out 5 (by omega)).2
      obtain ⟨y6, e6⟩ := Option.isSome_iff_exists.1 (RD.out 6 (by omega)).1
      have fq6 := (RD.out 6 (by omega)).2
      obtain ⟨y7, e7⟩ := Option.isSome_iff_exists.1 (RD.out 7 (by omega)).1
      have fq7 := (RD.out 7 (by omega)).2
      obtain ⟨y8, e8⟩ := Option.isSome_iff_exists.1 (RD.out 8 (by omega)).1
      have fq8 := (RD.out 8 (by omega)).2
      obtain ⟨y9, e9⟩ := Option.isSome_iff_exists.1 (RD.out 9 (by omega)).1
      have fq9 := (RD.out 9 (by omega)).2
      obtain ⟨y10, e10⟩ := Option.isSome_iff_exists.1 (RD.out 10 (by omega)).1
      have fq10 := (RD.out 10 (by omega)).2
      obtain ⟨y11, e11⟩ := Option.isSome_iff_exists.1 (RD.out 11 (by omega)).1
      have fq11 := (RD.out 11 (by omega)).2
      have KS := Lib.hid (K6.out.store (D := V.heap.size) (by intro e he; obtain rfl := List.mem_singleton.1 he; show w2.heap.size ≠ _; omega) (by omega) (by omega) [.int .i64 (mSca a c).1.a.re, .int .i64 (mSca a c).1.a.im, .int .i64 (mSca a c).1.a.den, .int .i64 (mSca a c).1.b.re, .int .i64 (mSca a c).1.b.im, .int .i64 (mSca a c).1.b.den, .int .i64 (mSca a c).1.c.re, .int .i64 (mSca a c).1.c.im, .int .i64 (mSca a c).1.c.den, .int .i64 (mSca a c).1.d.re, .int .i64 (mSca a c).1.d.im, .int .i64 (mSca a c).1.d.den])
      have KS := Lib.hid (by have hh := KS.out; simp only [World.setCells, Nat.zero_add, Nat.reduceAdd] at hh; exact hh)
      have hr := Lib.hid (by have hh := World.rangeAt_setCells_same w6 (V.heap.size) 0 [.int .i64 (mSca a c).1.a.re, .int .i64 (mSca a c).1.a.im, .int .i64 (mSca a c).1.a.den, .int .i64 (mSca a c).1.b.re, .int .i64 (mSca a c).1.b.im, .int .i64 (mSca a c).1.b.den, .int .i64 (mSca a c).1.c.re, .int .i64 (mSca a c).1.c.im, .int .i64 (mSca a c).1.c.den, .int .i64 (mSca a c).1.d.re, .int .i64 (mSca a c).1.d.im, .int .i64 (mSca a c).1.d.den] RD.out.there; simp only [World.setCells, Nat.zero_add, Nat.reduceAdd] at hh; exact hh)
      have hl := RD.out.ltF (by omega)
      refine wpAnyH_ready (rs := [8]) (by kernel_rfl) (by simp) ?_
      refine AllReadyH.cons rfl (fun Kp hK => ?_) AllReadyH.nil
      go_simp
      refine hK.out _ _ (cellsM (KS.out.box (w2.heap.size, [.int .i64 a.a.re, .int .i64 a.a.im, .int .i64 a.a.den, .int .i64 a.b.re, .int .i64 a.b.im, .int .i64 a.b.den, .int .i64 a.c.re, .int .i64 a.c.im, .int .i64 a.c.den, .int .i64 a.d.re, .int .i64 a.d.im, .int .i64 a.d.den]) (by simp)).2) (fun hHeld => ?_)
      clear hK Kp
      (try simp only [Act.put, List.getElem_toArray, List.getElem_cons_succ, List.getElem_cons_zero, List.setIfInBounds_toArray, List.set_cons_zero, List.set_cons_succ])
      refine wpAnyH_take (i := 9) (v := ?_) rfl (by kernel_rfl) (by kernel_rfl) (by kernel_rfl) (fun _ _ _ h => h) (Or.inl ⟨by rfl, ?_⟩) (by assumption) ?_
      rotate_left
      (focus (intro w hSw; (try dsimp only at hSw); go_simp; (try with_reducible rfl)))
      (try simp only [Act.put, List.getElem_toArray, List.getElem_cons_succ, List.getElem_cons_zero, List.setIfInBounds_toArray, List.set_cons_zero, List.set_cons_succ])
      refine wpAnyH_done (by kernel_rfl) ?_ _
      clear hHeld
      go_wp2_with fail
      go_meet
      refine ⟨V.heap.size, (mSca a c).1, (mSca a c).2, rfl, rfl, by omega, KS.out.add (by simpa using hl) (by omega) hr.out⟩
  case rest =>
  obtain ⟨D, o, q, rfl, rfl, hD, hK⟩ := hcut
  clear K
  have K := Lib.hid hK
  clear hK
  obtain ⟨U, hU⟩ : ∃ U, U = wc := ⟨_, rfl⟩
  rw [← hU] at K
  rw [← hU]
  clear hU
  cases q
  · skip
    go_upto_region 6 with fail
    go_cut [] (fun wx => ∃ b : M4, Below w.heap.size w wx ∧ BoxAt wx (w.heap.size) a.get 4 ∧ BoxAt wx (w.heap.size + 1) b.get 4)
    case first =>
      have K0 := Lib.hid K.out.drew
      refine wp_region_held_drew (S := (fun w' => w'.cell? ⟨w2.heap.size, 0, none⟩ = some (.int .i64 a.a.re) ∧ w'.cell? ⟨w2.heap.size, 1, none⟩ = some (.int .i64 a.a.im) ∧ w'.cell? ⟨w2.heap.size, 2, none⟩ = some (.int .i64 a.a.den) ∧ w'.cell? ⟨w2.heap.size, 3, none⟩ = some (.int .i64 a.b.re) ∧ w'.cell? ⟨w2.heap.size, 4, none⟩ = some (.int .i64 a.b.im) ∧ w'.cell? ⟨w2.heap.size, 5, none⟩ = some (.int .i64 a.b.den) ∧ w'.cell? ⟨w2.heap.size, 6, none⟩ = some (.int .i64 a.c.re) ∧ w'.cell? ⟨w2.heap.size, 7, none⟩ = some (.int .i64 a.c.im) ∧ w'.cell? ⟨w2.heap.size, 8, none⟩ = some (.int .i64 a.c.den) ∧ w'.cell? ⟨w2.heap.size, 9, none⟩ = some (.int .i64 a.d.re) ∧ w'.cell? ⟨w2.heap.size, 10, none⟩ = some (.int .i64 a.d.im) ∧ w'.cell? ⟨w2.heap.size, 11, none⟩ = some (.int .i64 a.d.den))) (by kernel_rfl) (cellsM (K0.out.box (w2.heap.size, [.int .i64 a.a.re, .int .i64 a.a.im, .int .i64 a.a.den, .int .i64 a.b.re, .int .i64 a.b.im, .int .i64 a.b.den, .int .i64 a.c.re, .int .i64 a.c.im, .int .i64 a.c.den, .int .i64 a.d.re, .int .i64 a.d.im, .int .i64 a.d.den]) (by simp)).2) (fun hHeld => ?_)
      refine wpAnyH_take (i := 0) (v := ?_) rfl (by kernel_rfl) (by kernel_rfl) (by kernel_rfl) (fun _ _ _ h => h) (Or.inl ⟨by rfl, ?_⟩) (by assumption) ?_
      rotate_left
      (focus (intro w hSw; (try dsimp only at hSw); go_simp; (try with_reducible rfl)))
      (try simp only [Act.put, List.getElem_toArray, List.getElem_cons_zero, List.setIfInBounds_toArray, List.set_cons_zero, List.set_cons_succ])
      refine wpAnyH_take (i := 1) (v := ?_) rfl (by kernel_rfl) (by kernel_rfl) (by kernel_rfl) (fun _ _ _ h => h) (Or.inl ⟨by rfl, ?_⟩) (by assumption) ?_
      rotate_left
      (focus (intro w hSw; (try dsimp only at hSw); go_simp; (try with_reducible rfl)))
      (try simp only [Act.put, List.getElem_toArray, List.getElem_cons_succ, List.getElem_cons_zero, List.setIfInBounds_toArray, List.set_cons_zero, List.set_cons_succ])
      refine wpAnyH_ready (rs := [2]) (by kernel_rfl) (by simp) ?_
      refine AllReadyH.cons rfl (fun Kp hK => ?_) AllReadyH.nil
      go_simp
      go_at_call 112
      (with_reducible refine Calls.mono (l91Mat_any (N := w.heap.size) (R := R) (a0 := a0) (len := len') (cap := cap) (k := ((0 + 100) + 8)) (Nat.le_of_ble_eq_true rfl) K0.out.rd) ?_)
      rintro e w8 ⟨v, rfl, ⟨b, rfl⟩, hO, hR⟩
      have K8 := Lib.hid (K0.out.own hO hR)
      clear hO hR
      refine hK.out _ _ (cellsM (K8.out.box (w2.heap.size, [.int .i64 a.a.re, .int .i64 a.a.im, .int .i64 a.a.den, .int .i64 a.b.re, .int .i64 a.b.im, .int .i64 a.b.den, .int .i64 a.c.re, .int .i64 a.c.im, .int .i64 a.c.den, .int .i64 a.d.re, .int .i64 a.d.im, .int .i64 a.d.den]) (by simp)).2) (fun hHeld => ?_)
      clear hK Kp
      (try simp only [Act.put, List.getElem_toArray, List.getElem_cons_succ, List.getElem_cons_zero, List.setIfInBounds_toArray, List.set_cons_zero, List.set_cons_succ])
      have hlo0 := K8.out.l0
      have hlo1 := K8.out.l1
      have hnr0 := K8.out.r0
      have hnr1 := K8.out.r1
      obtain ⟨y0_0, e0_0⟩ := Option.isSome_iff_exists.1 (K8.out.m0 0 (by omega)).1
      have f0_0 := (K8.out.m0 0 (by omega)).2
      obtain ⟨y0_1, e0_1⟩ := Option.isSome_iff_exists.1 (K8.out.m0 1 (by omega)).1
      have f0_1 := (K8.out.m0 1 (by omega)).2
      obtain ⟨y0_2, e0_2⟩ := Option.isSome_iff_exists.1 (K8.out.m0 2 (by omega)).1
      have f0_2 := (K8.out.m0 2 (by omega)).2
      obtain ⟨y0_3, e0_3⟩ := Option.isSome_iff_exists.1 (K8.out.m0 3 (by omega)).1
      have f0_3 := (K8.out.m0 3 (by omega)).2
      obtain ⟨y0_4, e0_4⟩ := Option.isSome_iff_exists.1 (K8.out.m0 4 (by omega)).1
      have f0_4 := (K8.out.m0 4 (by omega)).2
      obtain ⟨y0_5, e0_5⟩ := Option.isSome_iff_exists.1 (K8.out.m0 5 (by omega)).1
      have f0_5 := (K8.out.m0 5 (by omega)).2
      obtain ⟨y0_6, e0_6⟩ := Option.isSome_iff_exists.1 (K8.out.m0 6 (by omega)).1
      have f0_6 := (K8.out.m0 6 (by omega)).2
      obtain ⟨y0_7, e0_7⟩ := Option.isSome_iff_exists.1 (K8.out.m0 7 (by omega)).1
      have f0_7 := (K8.out.m0 7 (by omega)).2
      obtain ⟨y0_8, e0_8⟩ := Option.isSome_iff_exists.1 (K8.out.m0 8 (by omega)).1
      have f0_8 := (K8.out.m0 8 (by omega)).2
      obtain ⟨y0_9, e0_9⟩ := Option.isSome_iff_exists.1 (K8.out.m0 9 (by omega)).1
      have f0_9 := (K8.out.m0 9 (by omega)).2
      obtain ⟨y0_10, e0_10⟩ := Option.isSome_iff_exists.1 (K8.out.m0 10 (by omega)).1
      have f0_10 := (K8.out.m0 10 (by omega)).2
      obtain ⟨y0_11, e0_11⟩ := Option.isSome_iff_exists.1 (K8.out.m0 11 (by omega)).1
      have f0_11 := (K8.out.m0 11 (by omega)).2
      obtain ⟨y1_0, e1_0⟩ := Option.isSome_iff_exists.1 (K8.out.m1 0 (by omega)).1
      have f1_0 := (K8.out.m1 0 (by omega)).2
      obtain ⟨y1_1, e1_1⟩ := Option.isSome_iff_exists.1 (K8.out.m1 1 (by omega)).1
      have f1_1 := (K8.out.m1 1 (by omega)).2
      obtain ⟨y1_2, e1_2⟩ := Option.isSome_iff_exists.1 (K8.out.m1 2 (by omega)).1
      have f1_2 := (K8.out.m1 2 (by omega)).2
      obtain ⟨y1_3, e1_3⟩ := Option.isSome_iff_exists.1 (K8.out.m1 3 (by omega)).1
      have f1_3 := (K8.out.m1 3 (by omega)).2
      obtain ⟨y1_4, e1_4⟩ := Option.isSome_iff_exists.1 (K8.out.m1 4 (by omega)).1
      have f1_4 := (K8.out.m1 4 (by omega)).2
      obtain ⟨y1_5, e1_5⟩ := Option.isSome_iff_exists.1 (K8.out.m1 5 (by omega)).1
      have f1_5 := (K8.out.m1 5 (by omega)).2
      obtain ⟨y1_6, e1_6⟩ := Option.isSome_iff_exists.1 (K8.out.m1 6 (by omega)).1
      have f1_6 := (K8.out.m1 6 (by omega)).2
      obtain ⟨y1_7, e1_7⟩ := Option.isSome_iff_exists.1 (K8.out.m1 7 (by omega)).1
      have f1_7 := (K8.out.m1 7 (by omega)).2
      obtain ⟨y1_8, e1_8⟩ := Option.isSome_iff_exists.1 (K8.out.m1 8 (by omega)).1
      have f1_8 := (K8.out.m1 8 (by omega)).2
      obtain ⟨y1_9, e1_9⟩ := Option.isSome_iff_exists.1 (K8.out.m1 9 (by omega)).1
      have f1_9 := (K8.out.m1 9 (by omega)).2
      obtain ⟨y1_10, e1_10⟩ := Option.isSome_iff_exists.1 (K8.out.m1 10 (by omega)).1
      have f1_10 := (K8.out.m1 10 (by omega)).2
      obtain ⟨y1_11, e1_11⟩ := Option.isSome_iff_exists.1 (K8.out.m1 11 (by omega)).1
      have f1_11 := (K8.out.m1 11 (by omega)).2
      have KS := Lib.hid (K8.out.store (D := w.heap.size) (by intro e he; simp only [List.mem_cons, List.not_mem_nil, or_false] at he; rcases he with rfl | rfl <;> (show _ ≠ _; omega)) hnr0 (by omega) [.int .i64 a.a.re, .int .i64 a.a.im, .int .i64 a.a.den, .int .i64 a.b.re, .int .i64 a.b.im, .int .i64 a.b.den, .int .i64 a.c.re, .int .i64 a.c.im, .int .i64 a.c.den, .int .i64 a.d.re, .int .i64 a.d.im, .int .i64 a.d.den])
      have KT := Lib.hid (KS.out.store (D := w.heap.size + 1) (by intro e he; simp only [List.mem_cons, List.not_mem_nil, or_false] at he; rcases he with rfl | rfl <;> (show _ ≠ _; omega)) hnr1 (by omega) [.int .i64 b.a.re, .int .i64 b.a.im, .int .i64 b.a.den, .int .i64 b.b.re, .int .i64 b.b.im, .int .i64 b.b.den, .int .i64 b.c.re, .int .i64 b.c.im, .int .i64 b.c.den, .int .i64 b.d.re, .int .i64 b.d.im, .int .i64 b.d.den])
      have KS := Lib.hid (by have hh := KS.out; simp only [World.setCells, Nat.zero_add, Nat.reduceAdd] at hh; exact hh)
      have KT := Lib.hid (by have hh := KT.out; simp only [World.setCells, Nat.zero_add, Nat.reduceAdd] at hh; exact hh)
      refine wpAnyH_ready (rs := [3]) (by kernel_rfl) (by simp) ?_
      refine AllReadyH.cons rfl (fun Kp hK => ?_) AllReadyH.nil
      go_simp
      refine hK.out _ _ (cellsM (KS.out.box (w2.heap.size, [.int .i64 a.a.re, .int .i64 a.a.im, .int .i64 a.a.den, .int .i64 a.b.re, .int .i64 a.b.im, .int .i64 a.b.den, .int .i64 a.c.re, .int .i64 a.c.im, .int .i64 a.c.den, .int .i64 a.d.re, .int .i64 a.d.im, .int .i64 a.d.den]) (by simp)).2) (fun hHeld => ?_)
      clear hK Kp
      (try simp only [Act.put, List.getElem_toArray, List.getElem_cons_succ, List.getElem_cons_zero, List.setIfInBounds_toArray, List.set_cons_zero, List.set_cons_succ])
      refine wpAnyH_ready (rs := [4]) (by kernel_rfl) (by simp) ?_
      refine AllReadyH.cons rfl (fun Kp hK => ?_) AllReadyH.nil
      go_simp
      refine hK.out _ _ (cellsM (KT.out.box (w2.heap.size, [.int .i64 a.a.re, .int .i64 a.a.im, .int .i64 a.a.den, .int .i64 a.b.re, .int .i64 a.b.im, .int .i64 a.b.den, .int .i64 a.c.re, .int .i64 a.c.im, .int .i64 a.c.den, .int .i64 a.d.re, .int .i64 a.d.im, .int .i64 a.d.den]) (by simp)).2) (fun hHeld => ?_)
      clear hK Kp
      (try simp only [Act.put, List.getElem_toArray, List.getElem_cons_succ, List.getElem_cons_zero, List.setIfInBounds_toArray, List.set_cons_zero, List.set_cons_succ])
      refine wpAnyH_done (by kernel_rfl) ?_ _
      clear hHeld
      go_wp2_with fail
      go_meet
      have r0 := K8.out.m0
      have r1 := K8.out.m1
      have hb8 := K8.out.below
      refine ⟨b, ?_, ?_, ?_⟩
      · iterate 24 refine Below.setCell ?_ (by show _ ≤ _; first | exact Nat.le_refl _ | exact Nat.le_succ _) _
        exact hb8
      · iterate 12 refine BoxAt.far' ?_ (by omega)
        exact box4 r0
      · refine box4 ?_
        iterate 12 refine Room.far' ?_ _ _
        exact r1
    case rest =>
    obtain ⟨b, hB, h0, h1⟩ := hcut
    have k0 := h0.q12
    have k1 := h1.q12
    go_wp2
    refine bodyPost_ret (v := .tuple #[.agg #[.int .i64 a.a.re, .int .i64 a.a.im, .int .i64 a.a.den, .int .i64 a.b.re, .int .i64 a.b.im, .int .i64 a.b.den, .int .i64 a.c.re, .int .i64 a.c.im, .int .i64 a.c.den, .int .i64 a.d.re, .int .i64 a.d.im, .int .i64 a.d.den], .agg #[.int .i64 b.a.re, .int .i64 b.a.im, .int .i64 b.a.den, .int .i64 b.b.re, .int .i64 b.b.im, .int .i64 b.b.den, .int .i64 b.c.re, .int .i64 b.c.im, .int .i64 b.c.den, .int .i64 b.d.re, .int .i64 b.d.im, .int .i64 b.d.den]]) (by simp [results, Tryd.results59, go_sem, *]) rfl ⟨a, b, rfl, hB⟩
  · skip
    go_wp2_with fail
    refine (pick_any 2 (by omega) (by omega) (Nat.le_of_ble_eq_true rfl) K.out.rd).mono ?_
    rintro e w7 ⟨v, rfl, ⟨m, rfl, m0, m1⟩, hO, hR⟩
    have hz7 := hO.size
    have K := Lib.hid (K.out.own hO hR)
    clear hO hR
    by_cases hm : m = 0
    · subst hm
      go_upto_region 5 with fail
      go_cut [] (fun wx => ∃ b : M4, Below w.heap.size w wx ∧ BoxAt wx (w.heap.size) a.get 4 ∧ BoxAt wx (w.heap.size + 1) b.get 4)
      case first =>
        have KB := Lib.hid (K.out)
        have K0 := Lib.hid K.out.drew
        refine wp_region_held_drew (S := (fun w' => (w'.cell? ⟨w2.heap.size, 0, none⟩ = some (.int .i64 a.a.re) ∧ w'.cell? ⟨w2.heap.size, 1, none⟩ = some (.int .i64 a.a.im) ∧ w'.cell? ⟨w2.heap.size, 2, none⟩ = some (.int .i64 a.a.den) ∧ w'.cell? ⟨w2.heap.size, 3, none⟩ = some (.int .i64 a.b.re) ∧ w'.cell? ⟨w2.heap.size, 4, none⟩ = some (.int .i64 a.b.im) ∧ w'.cell? ⟨w2.heap.size, 5, none⟩ = some (.int .i64 a.b.den) ∧ w'.cell? ⟨w2.heap.size, 6, none⟩ = some (.int .i64 a.c.re) ∧ w'.cell? ⟨w2.heap.size, 7, none⟩ = some (.int .i64 a.c.im) ∧ w'.cell? ⟨w2.heap.size, 8, none⟩ = some (.int .i64 a.c.den) ∧ w'.cell? ⟨w2.heap.size, 9, none⟩ = some (.int .i64 a.d.re) ∧ w'.cell? ⟨w2.heap.size, 10, none⟩ = some (.int .i64 a.d.im) ∧ w'.cell? ⟨w2.heap.size, 11, none⟩ = some (.int .i64 a.d.den)) ∧ (w'.cell? ⟨D, 0, none⟩ = some (.int .i64 o.a.re) ∧ w'.cell? ⟨D, 1, none⟩ = some (.int .i64 o.a.im) ∧ w'.cell? ⟨D, 2, none⟩ = some (.int .i64 o.a.den) ∧ w'.cell? ⟨D, 3, none⟩ = some (.int .i64 o.b.re) ∧ w'.cell? ⟨D, 4, none⟩ = some (.int .i64 o.b.im) ∧ w'.cell? ⟨D, 5, none⟩ = some (.int .i64 o.b.den) ∧ w'.cell? ⟨D, 6, none⟩ = some (.int .i64 o.c.re) ∧ w'.cell? ⟨D, 7, none⟩ = some (.int .i64 o.c.im) ∧ w'.cell? ⟨D, 8, none⟩ = some (.int .i64 o.c.den) ∧ w'.cell? ⟨D, 9, none⟩ = some (.int .i64 o.d.re) ∧ w'.cell? ⟨D, 10, none⟩ = some (.int .i64 o.d.im) ∧ w'.cell? ⟨D, 11, none⟩ = some (.int .i64 o.d.den)))) (by kernel_rfl) ⟨(cellsM (K0.out.box (w2.heap.size, [.int .i64 a.a.re, .int .i64 a.a.im, .int .i64 a.a.den, .int .i64 a.b.re, .int .i64 a.b.im, .int .i64 a.b.den, .int .i64 a.c.re, .int .i64 a.c.im, .int .i64 a.c.den, .int .i64 a.d.re, .int .i64 a.d.im, .int .i64 a.d.den]) (by simp)).2), (cellsM (K0.out.box (D, [.int .i64 o.a.re, .int .i64 o.a.im, .int .i64 o.a.den, .int .i64 o.b.re, .int .i64 o.b.im, .int .i64 o.b.den, .int .i64 o.c.re, .int .i64 o.c.im, .int .i64 o.c.den, .int .i64 o.d.re, .int .i64 o.d.im, .int .i64 o.d.den]) (by simp)).2)⟩ (fun hHeld => ?_)
        refine wpAnyH_take (i := 0) (v := ?_) rfl (by kernel_rfl) (by kernel_rfl) (by kernel_rfl) (fun _ _ _ h => h) (Or.inl ⟨by rfl, ?_⟩) (by assumption) ?_
        rotate_left
        (focus (intro w hSw; (try dsimp only at hSw); go_simp; (try with_reducible rfl)))
        (try simp only [Act.put, List.getElem_toArray, List.getElem_cons_zero, List.setIfInBounds_toArray, List.set_cons_zero, List.set_cons_succ])
        refine wpAnyH_take (i := 1) (v := ?_) rfl (by kernel_rfl) (by kernel_rfl) (by kernel_rfl) (fun _ _ _ h => h) (Or.inl ⟨by rfl, ?_⟩) (by assumption) ?_
        rotate_left
        (focus (intro w hSw; (try dsimp only at hSw); go_simp; (try with_reducible rfl)))
        (try simp only [Act.put, List.getElem_toArray, List.getElem_cons_succ, List.getElem_cons_zero, List.setIfInBounds_toArray, List.set_cons_zero, List.set_cons_succ])
        have hlo0 := KB.out.l0
        have hlo1 := KB.out.l1
        have hnr0 := KB.out.r0
        have hnr1 := KB.out.r1
        obtain ⟨y0_0, e0_0⟩ := Option.isSome_iff_exists.1 (KB.out.m0 0 (by omega)).1
        have f0_0 := (KB.out.m0 0 (by omega)).2
        obtain ⟨y0_1, e0_1⟩ := Option.isSome_iff_exists.1 (KB.out.m0 1 (by omega)).1
        have f0_1 := (KB.out.m0 1 (by omega)).2
        obtain ⟨y0_2, e0_2⟩ := Option.isSome_iff_exists.1 (KB.out.m0 2 (by omega)).1
        have f0_2 := (KB.out.m0 2 (by omega)).2
        obtain ⟨y0_3, e0_3⟩ := Option.isSome_iff_exists.1 (KB.out.m0 3 (by omega)).1
        have f0_3 := (KB.out.m0 3 (by omega)).2
        obtain ⟨y0_4, e0_4⟩ := Option.isSome_iff_exists.1 (KB.out.m0 4 (by omega)).1
        have f0_4 := (KB.out.m0 4 (by omega)).2
        obtain ⟨y0_5, e0_5⟩ := Option.isSome_iff_exists.1 (KB.out.m0 5 (by omega)).1
        have f0_5 := (KB.out.m0 5 (by omega)).2
        obtain ⟨y0_6, e0_6⟩ := Option.isSome_iff_exists.1 (KB.out.m0 6 (by omega)).1
        have f0_6 := (KB.out.m0 6 (by omega)).2
        obtain ⟨y0_7, e0_7⟩ := Option.isSome_iff_exists.1 (KB.out.m0 7 (by omega)).1
        have f0_7 := (KB.out.m0 7 (by omega)).2
        obtain ⟨y0_8, e0_8⟩ := Option.isSome_iff_exists.1 (KB.out.m0 8 (by omega)).1
        have f0_8 := (KB.out.m0 8 (by omega)).2
        obtain ⟨y0_9, e0_9⟩ := Option.isSome_iff_exists.1 (KB.out.m0 9 (by omega)).1
        have f0_9 := (KB.out.m0 9 (by omega)).2
        obtain ⟨y0_10, e0_10⟩ := Option.isSome_iff_exists.1 (KB.out.m0 10 (by omega)).1
        have f0_10 := (KB.out.m0 10 (by omega)).2
        obtain ⟨y0_11, e0_11⟩ := Option.isSome_iff_exists.1 (KB.out.m0 11 (by omega)).1
        have f0_11 := (KB.out.m0 11 (by omega)).2
        obtain ⟨y1_0, e1_0⟩ := Option.isSome_iff_exists.1 (KB.out.m1 0 (by omega)).1
        have f1_0 := (KB.out.m1 0 (by omega)).2
        obtain ⟨y1_1, e1_1⟩ := Option.isSome_iff_exists.1 (KB.out.m1 1 (by omega)).1
        have f1_1 := (KB.out.m1 1 (by omega)).2
        obtain ⟨y1_2, e1_2⟩ := Option.isSome_iff_exists.1 (KB.out.m1 2 (by omega)).1
        have f1_2 := (KB.out.m1 2 (by omega)).2
        obtain ⟨y1_3, e1_3⟩ := Option.isSome_iff_exists.1 (KB.out.m1 3 (by omega)).1
        have f1_3 := (KB.out.m1 3 (by omega)).2
        obtain ⟨y1_4, e1_4⟩ := Option.isSome_iff_exists.1 (KB.out.m1 4 (by omega)).1
        have f1_4 := (KB.out.m1 4 (by omega)).2
        obtain ⟨y1_5, e1_5⟩ := Option.isSome_iff_exists.1 (KB.out.m1 5 (by omega)).1
        have f1_5 := (KB.out.m1 5 (by omega)).2
        obtain ⟨y1_6, e1_6⟩ := Option.isSome_iff_exists.1 (KB.out.m1 6 (by omega)).1
        have f1_6 := (KB.out.m1 6 (by omega)).2
        obtain ⟨y1_7, e1_7⟩ := Option.isSome_iff_exists.1 (KB.out.m1 7 (by omega)).1
        have f1_7 := (KB.out.m1 7 (by omega)).2
        obtain ⟨y1_8, e1_8⟩ := Option.isSome_iff_exists.1 (KB.out.m1 8 (by omega)).1
        have f1_8 := (KB.out.m1 8 (by omega)).2
        obtain ⟨y1_9, e1_9⟩ := Option.isSome_iff_exists.1 (KB.out.m1 9 (by omega)).1
        have f1_9 := (KB.out.m1 9 (by omega)).2
        obtain ⟨y1_10, e1_10⟩ := Option.isSome_iff_exists.1 (KB.out.m1 10 (by omega)).1
        have f1_10 := (KB.out.m1 10 (by omega)).2
        obtain ⟨y1_11, e1_11⟩ := Option.isSome_iff_exists.1 (KB.out.m1 11 (by omega)).1
        have f1_11 := (KB.out.m1 11 (by omega)).2
        have KS := Lib.hid (KB.out.store (D := w.heap.size) (by intro e he; simp only [List.mem_cons, List.not_mem_nil, or_false] at he; rcases he with rfl | rfl <;> (show _ ≠ _; omega)) hnr0 (by omega) [.int .i64 a.a.re, .int .i64 a.a.im, .int .i64 a.a.den, .int .i64 a.b.re, .int .i64 a.b.im, .int .i64 a.b.den, .int .i64 a.c.re, .int .i64 a.c.im, .int .i64 a.c.den, .int .i64 a.d.re, .int .i64 a.d.im, .int .i64 a.d.den])
        have KT := Lib.hid (KS.out.store (D := w.heap.size + 1) (by intro e he; simp only [List.mem_cons, List.not_mem_nil, or_false] at he; rcases he with rfl | rfl <;> (show _ ≠ _; omega)) hnr1 (by omega) [.int .i64 o.a.re, .int .i64 o.a.im, .int .i64 o.a.den, .int .i64 o.b.re, .int .i64 o.b.im, .int .i64 o.b.den, .int .i64 o.c.re, .int .i64 o.c.im, .int .i64 o.c.den, .int .i64 o.d.re, .int .i64 o.d.im, .int .i64 o.d.den])
        have KS := Lib.hid KS.out.drew
        have KT := Lib.hid KT.out.drew
        have KS := Lib.hid (by have hh := KS.out; simp only [World.setCells, Nat.zero_add, Nat.reduceAdd] at hh; exact hh)
        have KT := Lib.hid (by have hh := KT.out; simp only [World.setCells, Nat.zero_add, Nat.reduceAdd] at hh; exact hh)
        refine wpAnyH_ready (rs := [2]) (by kernel_rfl) (by simp) ?_
        refine AllReadyH.cons rfl (fun Kp hK => ?_) AllReadyH.nil
        go_simp
        refine hK.out _ _ ⟨(cellsM (KS.out.box (w2.heap.size, [.int .i64 a.a.re, .int .i64 a.a.im, .int .i64 a.a.den, .int .i64 a.b.re, .int .i64 a.b.im, .int .i64 a.b.den, .int .i64 a.c.re, .int .i64 a.c.im, .int .i64 a.c.den, .int .i64 a.d.re, .int .i64 a.d.im, .int .i64 a.d.den]) (by simp)).2), (cellsM (KS.out.box (D, [.int .i64 o.a.re, .int .i64 o.a.im, .int .i64 o.a.den, .int .i64 o.b.re, .int .i64 o.b.im, .int .i64 o.b.den, .int .i64 o.c.re, .int .i64 o.c.im, .int .i64 o.c.den, .int .i64 o.d.re, .int .i64 o.d.im, .int .i64 o.d.den]) (by simp)).2)⟩ (fun hHeld => ?_)
        clear hK Kp
        (try simp only [Act.put, List.getElem_toArray, List.getElem_cons_succ, List.getElem_cons_zero, List.setIfInBounds_toArray, List.set_cons_zero, List.set_cons_succ])
        refine wpAnyH_ready (rs := [3]) (by kernel_rfl) (by simp) ?_
        refine AllReadyH.cons rfl (fun Kp hK => ?_) AllReadyH.nil
        go_simp
        refine hK.out _ _ ⟨(cellsM (KT.out.box (w2.heap.size, [.int .i64 a.a.re, .int .i64 a.a.im, .int .i64 a.a.den, .int .i64 a.b.re, .int .i64 a.b.im, .int .i64 a.b.den, .int .i64 a.c.re, .int .i64 a.c.im, .int .i64 a.c.den, .int .i64 a.d.re, .int .i64 a.d.im, .int .i64 a.d.den]) (by simp)).2), (cellsM (KT.out.box (D, [.int .i64 o.a.re, .int .i64 o.a.im, .int .i64 o.a.den, .int .i64 o.b.re, .int .i64 o.b.im, .int .i64 o.b.den, .int .i64 o.c.re, .int .i64 o.c.im, .int .i64 o.c.den, .int .i64 o.d.re, .int .i64 o.d.im, .int .i64 o.d.den]) (by simp)).2)⟩ (fun hHeld => ?_)
        clear hK Kp
        (try simp only [Act.put, List.getElem_toArray, List.getElem_cons_succ, List.getElem_cons_zero, List.setIfInBounds_toArray, List.set_cons_zero, List.set_cons_succ])
        refine wpAnyH_done (by kernel_rfl) ?_ _
        clear hHeld
        go_wp2_with fail
        go_meet
        have r0 := KB.out.m0
        have r1 := KB.out.m1
        have hb8 := KB.out.below
        refine ⟨o, Below.drew ?_, BoxAt.drX ?_, BoxAt.drX ?_⟩
        · iterate 24 refine Below.setCell ?_ (by show _ ≤ _; first | exact Nat.le_refl _ | exact Nat.le_succ _) _
          exact hb8
        · iterate 12 refine BoxAt.far' ?_ (by omega)
          exact box4 r0
        · refine box4 ?_
          iterate 12 refine Room.far' ?_ _ _
          exact r1
      case rest =>
      obtain ⟨b, hB, h0, h1⟩ := hcut
      have k0 := h0.q12
      have k1 := h1.q12
      go_wp2
      refine bodyPost_ret (v := .tuple #[.agg #[.int .i64 a.a.re, .int .i64 a.a.im, .int .i64 a.a.den, .int .i64 a.b.re, .int .i64 a.b.im, .int .i64 a.b.den, .int .i64 a.c.re, .int .i64 a.c.im, .int .i64 a.c.den, .int .i64 a.d.re, .int .i64 a.d.im, .int .i64 a.d.den], .agg #[.int .i64 b.a.re, .int .i64 b.a.im, .int .i64 b.a.den, .int .i64 b.b.re, .int .i64 b.b.im, .int .i64 b.b.den, .int .i64 b.c.re, .int .i64 b.c.im, .int .i64 b.c.den, .int .i64 b.d.re, .int .i64 b.d.im, .int .i64 b.d.den]]) (by simp [results, Tryd.results59, go_sem, *]) rfl ⟨a, b, rfl, hB⟩
    · skip
      go_upto_region 6 with fail
      go_cut [] (fun wx => ∃ b : M4, Below w.heap.size w wx ∧ BoxAt wx (w.heap.size) a.get 4 ∧ BoxAt wx (w.heap.size + 1) b.get 4)
      case first =>
        have K0 := Lib.hid K.out.drew
        refine wp_region_held_drew (S := (fun w' => w'.cell? ⟨w2.heap.size, 0, none⟩ = some (.int .i64 a.a.re) ∧ w'.cell? ⟨w2.heap.size, 1, none⟩ = some (.int .i64 a.a.im) ∧ w'.cell? ⟨w2.heap.size, 2, none⟩ = some (.int .i64 a.a.den) ∧ w'.cell? ⟨w2.heap.size, 3, none⟩ = some (.int .i64 a.b.re) ∧ w'.cell? ⟨w2.heap.size, 4, none⟩ = some (.int .i64 a.b.im) ∧ w'.cell? ⟨w2.heap.size, 5, none⟩ = some (.int .i64 a.b.den) ∧ w'.cell? ⟨w2.heap.size, 6, none⟩ = some (.int .i64 a.c.re) ∧ w'.cell? ⟨w2.heap.size, 7, none⟩ = some (.int .i64 a.c.im) ∧ w'.cell? ⟨w2.heap.size, 8, none⟩ = some (.int .i64 a.c.den) ∧ w'.cell? ⟨w2.heap.size, 9, none⟩ = some (.int .i64 a.d.re) ∧ w'.cell? ⟨w2.heap.size, 10, none⟩ = some (.int .i64 a.d.im) ∧ w'.cell? ⟨w2.heap.size, 11, none⟩ = some (.int .i64 a.d.den))) (by kernel_rfl) (cellsM (K0.out.box (w2.heap.size, [.int .i64 a.a.re, .int .i64 a.a.im, .int .i64 a.a.den, .int .i64 a.b.re, .int .i64 a.b.im, .int .i64 a.b.den, .int .i64 a.c.re, .int .i64 a.c.im, .int .i64 a.c.den, .int .i64 a.d.re, .int .i64 a.d.im, .int .i64 a.d.den]) (by simp)).2) (fun hHeld => ?_)
        refine wpAnyH_take (i := 0) (v := ?_) rfl (by kernel_rfl) (by kernel_rfl) (by kernel_rfl) (fun _ _ _ h => h) (Or.inl ⟨by rfl, ?_⟩) (by assumption) ?_
        rotate_left
        (focus (intro w hSw; (try dsimp only at hSw); go_simp; (try with_reducible rfl)))
        (try simp only [Act.put, List.getElem_toArray, List.getElem_cons_zero, List.setIfInBounds_toArray, List.set_cons_zero, List.set_cons_succ])
        refine wpAnyH_take (i := 1) (v := ?_) rfl (by kernel_rfl) (by kernel_rfl) (by kernel_rfl) (fun _ _ _ h => h) (Or.inl ⟨by rfl, ?_⟩) (by assumption) ?_
        rotate_left
        (focus (intro w hSw; (try dsimp only at hSw); go_simp; (try with_reducible rfl)))
        (try simp only [Act.put, List.getElem_toArray, List.getElem_cons_succ, List.getElem_cons_zero, List.setIfInBounds_toArray, List.set_cons_zero, List.set_cons_succ])
        refine wpAnyH_ready (rs := [2]) (by kernel_rfl) (by simp) ?_
        refine AllReadyH.cons rfl (fun Kp hK => ?_) AllReadyH.nil
        go_simp
        go_at_call 112
        (with_reducible refine Calls.mono (l91Mat_any (N := w.heap.size) (R := R) (a0 := a0) (len := len') (cap := cap) (k := (((0 + 100) + 8) + 1)) (Nat.le_of_ble_eq_true rfl) K0.out.rd) ?_)
        rintro e w8 ⟨v, rfl, ⟨b, rfl⟩, hO, hR⟩
        have K8 := Lib.hid (K0.out.own hO hR)
        clear hO hR
        refine hK.out _ _ (cellsM (K8.out.box (w2.heap.size, [.int .i64 a.a.re, .int .i64 a.a.im, .int .i64 a.a.den, .int .i64 a.b.re, .int .i64 a.b.im, .int .i64 a.b.den, .int .i64 a.c.re, .int .i64 a.c.im, .int .i64 a.c.den, .int .i64 a.d.re, .int .i64 a.d.im, .int .i64 a.d.den]) (by simp)).2) (fun hHeld => ?_)
        clear hK Kp
        (try simp only [Act.put, List.getElem_toArray, List.getElem_cons_succ, List.getElem_cons_zero, List.setIfInBounds_toArray, List.set_cons_zero, List.set_cons_succ])
        have hlo0 := K8.out.l0
        have hlo1 := K8.out.l1
        have hnr0 := K8.out.r0
        have hnr1 := K8.out.r1
        obtain ⟨y0_0, e0_0⟩ := Option.isSome_iff_exists.1 (K8.out.m0 0 (by omega)).1
        have f0_0 := (K8.out.m0 0 (by omega)).2
        obtain ⟨y0_1, e0_1⟩ := Option.isSome_iff_exists.1 (K8.out.m0 1 (by omega)).1
        have f0_1 := (K8.out.m0 1 (by omega)).2
        obtain ⟨y0_2, e0_2⟩ := Option.isSome_iff_exists.1 (K8.out.m0 2 (by omega)).1
        have f0_2 := (K8.out.m0 2 (by omega)).2
        obtain ⟨y0_3, e0_3⟩ := Option.isSome_iff_exists.1 (K8.out.m0 3 (by omega)).1
        have f0_3 := (K8.out.m0 3 (by omega)).2
        obtain ⟨y0_4, e0_4⟩ := Option.isSome_iff_exists.1 (K8.out.m0 4 (by omega)).1
        have f0_4 := (K8.out.m0 4 (by omega)).2
        obtain ⟨y0_5, e0_5⟩ := Option.isSome_iff_exists.1 (K8.out.m0 5 (by omega)).1
        have f0_5 := (K8.out.m0 5 (by omega)).2
        obtain ⟨y0_6, e0_6⟩ := Option.isSome_iff_exists.1 (K8.out.m0 6 (by omega)).1
        have f0_6 := (K8.out.m0 6 (by omega)).2
        obtain ⟨y0_7, e0_7⟩ := Option.isSome_iff_exists.1 (K8.out.m0 7 (by omega)).1
        have f0_7 := (K8.out.m0 7 (by omega)).2
        obtain ⟨y0_8, e0_8⟩ := Option.isSome_iff_exists.1 (K8.out.m0 8 (by omega)).1
        have f0_8 := (K8.out.m0 8 (by omega)).2
        obtain ⟨y0_9, e0_9⟩ := Option.isSome_iff_exists.1 (K8.out.m0 9 (by omega)).1
        have f0_9 := (K8.out.m0 9 (by omega)).2
        obtain ⟨y0_10, e0_10⟩ := Option.isSome_iff_exists.1 (K8.out.m0 10 (by omega)).1
        have f0_10 := (K8.out.m0 10 (by omega)).2
        obtain ⟨y0_11, e0_11⟩ := Option.isSome_iff_exists.1 (K8.out.m0 11 (by omega)).1
        have f0_11 := (K8.out.m0 11 (by omega)).2
        obtain ⟨y1_0, e1_0⟩ := Option.isSome_iff_exists.1 (K8.out.m1 0 (by omega)).1
        have f1_0 := (K8.out.m1 0 (by omega)).2
        obtain ⟨y1_1, e1_1⟩ := Option.isSome_iff_exists.1 (K8.out.m1 1 (by omega)).1
        have f1_1 := (K8.out.m1 1 (by omega)).2
        obtain ⟨y1_2, e1_2⟩ := Option.isSome_iff_exists.1 (K8.out.m1 2 (by omega)).1
        have f1_2 := (K8.out.m1 2 (by omega)).2
        obtain ⟨y1_3, e1_3⟩ := Option.isSome_iff_exists.1 (K8.out.m1 3 (by omega)).1
        have f1_3 := (K8.out.m1 3 (by omega)).2
        obtain ⟨y1_4, e1_4⟩ := Option.isSome_iff_exists.1 (K8.out.m1 4 (by omega)).1
        have f1_4 := (K8.out.m1 4 (by omega)).2
        obtain ⟨y1_5, e1_5⟩ := Option.isSome_iff_exists.1 (K8.out.m1 5 (by omega)).1
        have f1_5 := (K8.out.m1 5 (by omega)).2
        obtain ⟨y1_6, e1_6⟩ := Option.isSome_iff_exists.1 (K8.out.m1 6 (by omega)).1
        have f1_6 := (K8.out.m1 6 (by omega)).2
        obtain ⟨y1_7, e1_7⟩ := Option.isSome_iff_exists.1 (K8.out.m1 7 (by omega)).1
        have f1_7 := (K8.out.m1 7 (by omega)).2
        obtain ⟨y1_8, e1_8⟩ := Option.isSome_iff_exists.1 (K8.out.m1 8 (by omega)).1
        have f1_8 := (K8.out.m1 8 (by omega)).2
        obtain ⟨y1_9, e1_9⟩ := Option.isSome_iff_exists.1 (K8.out.m1 9 (by omega)).1
        have f1_9 := (K8.out.m1 9 (by omega)).2
        obtain ⟨y1_10, e1_10⟩ := Option.isSome_iff_exists.1 (K8.out.m1 10 (by omega)).1
        have f1_10 := (K8.out.m1 10 (by omega)).2
        obtain ⟨y1_11, e1_11⟩ := Option.isSome_iff_exists.1 (K8.out.m1 11 (by omega)).1
        have f1_11 := (K8.out.m1 11 (by omega)).2
        have KS := Lib.hid (K8.out.store (D := w.heap.size) (by intro e he; simp only [List.mem_cons, List.not_mem_nil, or_false] at he; rcases he with rfl | rfl <;> (show _ ≠ _; omega)) hnr0 (by omega) [.int .i64 a.a.re, .int .i64 a.a.im, .int .i64 a.a.den, .int .i64 a.b.re, .int .i64 a.b.im, .int .i64 a.b.den, .int .i64 a.c.re, .int .i64 a.c.im, .int .i64 a.c.den, .int .i64 a.d.re, .int .i64 a.d.im, .int .i64 a.d.den])
        have KT := Lib.hid (KS.out.store (D := w.heap.size + 1) (by intro e he; simp only [List.mem_cons, List.not_mem_nil, or_false] at he; rcases he with rfl | rfl <;> (show _ ≠ _; omega)) hnr1 (by omega) [.int .i64 b.a.re, .int .i64 b.a.im, .int .i64 b.a.den, .int .i64 b.b.re, .int .i64 b.b.im, .int .i64 b.b.den, .int .i64 b.c.re, .int .i64 b.c.im, .int .i64 b.c.den, .int .i64 b.d.re, .int .i64 b.d.im, .int .i64 b.d.den])
        have KS := Lib.hid (by have hh := KS.out; simp only [World.setCells, Nat.zero_add, Nat.reduceAdd] at hh; exact hh)
        have KT := Lib.hid (by have hh := KT.out; simp only [World.setCells, Nat.zero_add, Nat.reduceAdd] at hh; exact hh)
        refine wpAnyH_ready (rs := [3]) (by kernel_rfl) (by simp) ?_
        refine AllReadyH.cons rfl (fun Kp hK => ?_) AllReadyH.nil
        go_simp
        refine hK.out _ _ (cellsM (KS.out.box (w2.heap.size, [.int .i64 a.a.re, .int .i64 a.a.im, .int .i64 a.a.den, .int .i64 a.b.re, .int .i64 a.b.im, .int .i64 a.b.den, .int .i64 a.c.re, .int .i64 a.c.im, .int .i64 a.c.den, .int .i64 a.d.re, .int .i64 a.d.im, .int .i64 a.d.den]) (by simp)).2) (fun hHeld => ?_)
        clear hK Kp
        (try simp only [Act.put, List.getElem_toArray, List.getElem_cons_succ, List.getElem_cons_zero, List.setIfInBounds_toArray, List.set_cons_zero, List.set_cons_succ])
        refine wpAnyH_ready (rs := [4]) (by kernel_rfl) (by simp) ?_
        refine AllReadyH.cons rfl (fun Kp hK => ?_) AllReadyH.nil
        go_simp
        refine hK.out _ _ (cellsM (KT.out.box (w2.heap.size, [.int .i64 a.a.re, .int .i64 a.a.im, .int .i64 a.a.den, .int .i64 a.b.re, .int .i64 a.b.im, .int .i64 a.b.den, .int .i64 a.c.re, .int .i64 a.c.im, .int .i64 a.c.den, .int .i64 a.d.re, .int .i64 a.d.im, .int .i64 a.d.den]) (by simp)).2) (fun hHeld => ?_)
        clear hK Kp
        (try simp only [Act.put, List.getElem_toArray, List.getElem_cons_succ, List.getElem_cons_zero, List.setIfInBounds_toArray, List.set_cons_zero, List.set_cons_succ])
        refine wpAnyH_done (by kernel_rfl) ?_ _
        clear hHeld
        go_wp2_with fail
        go_meet
        have r0 := K8.out.m0
        have r1 := K8.out.m1
        have hb8 := K8.out.below
        refine ⟨b, ?_, ?_, ?_⟩
        · iterate 24 refine Below.setCell ?_ (by show _ ≤ _; first | exact Nat.le_refl _ | exact Nat.le_succ _) _
          exact hb8
        · iterate 12 refine BoxAt.far' ?_ (by omega)
          exact box4 r0
        · refine box4 ?_
          iterate 12 refine Room.far' ?_ _ _
          exact r1
      case rest =>
      obtain ⟨b, hB, h0, h1⟩ := hcut
      have k0 := h0.q12
      have k1 := h1.q12
      go_wp2
      refine bodyPost_ret (v := .tuple #[.agg #[.int .i64 a.a.re, .int .i64 a.a.im, .int .i64 a.a.den, .int .i64 a.b.re, .int .i64 a.b.im, .int .i64 a.b.den, .int .i64 a.c.re, .int .i64 a.c.im, .int .i64 a.c.den, .int .i64 a.d.re, .int .i64 a.d.im, .int .i64 a.d.den], .agg #[.int .i64 b.a.re, .int .i64 b.a.im, .int .i64 b.a.den, .int .i64 b.b.re, .int .i64 b.b.im, .int .i64 b.b.den, .int .i64 b.c.re, .int .i64 b.c.im, .int .i64 b.c.den, .int .i64 b.d.re, .int .i64 b.d.im, .int .i64 b.d.den]]) (by simp [results, Tryd.results59, go_sem, *]) rfl ⟨a, b, rfl, hB⟩
end Go.Proofs.YtmcokdiopcpifaaDoor
