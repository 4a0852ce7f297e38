/- Contracts: a draw of two values (Jones, Frac). -/
import Derived.Test.YtmcokdiopcpifaaDoorPjG32
import Derived.Deep.DeepCutAuto
import Derived.Deep.RegionHeld3
set_option maxRecDepth 100000
namespace Go.Proofs.YtmcokdiopcpifaaDoor
open Go.RowKit Pol
def JFOut (w : World) (e : Ending) (w' : World) : Prop := ∃ (a : J2) (b : Fr), e = .returned (.tuple #[.agg #[.int .i64 a.x.re, .int .i64 a.x.im, .int .i64 a.x.den, .int .i64 a.y.re, .int .i64 a.y.im, .int .i64 a.y.den], .agg #[.int .i64 b.re, .int .i64 b.im, .int .i64 b.den]]) ∧ Below w.heap.size w w'
set_option maxRecDepth 100000 in
set_option maxHeartbeats 40000000 in
theorem DrawJonesTimes_any (a0 : Option Addr) (len cap : Nat) (w : World) (hc : len ≤ cap) (HC : Code w.heap.size w a0 len) :
    Calls Tryd.prog 28 #[.slice a0 len cap] w (JFOut w) := by
  have HM0 : Hid (Room ((w.alloc (.cells #[.int .i64 0, .int .i64 0, .int .i64 0, .int .i64 0, .int .i64 0, .int .i64 0] 47)).alloc (.cells #[.int .i64 0, .int .i64 0, .int .i64 0] 23)) (w.heap.size) 2) := by show Room _ _ _; exact (Room.new' rfl rfl).alloc (by simp) _
  have HM1 : Hid (Room ((w.alloc (.cells #[.int .i64 0, .int .i64 0, .int .i64 0, .int .i64 0, .int .i64 0, .int .i64 0] 47)).alloc (.cells #[.int .i64 0, .int .i64 0, .int .i64 0] 23)) (w.heap.size + 1) 1) := by show Room _ _ _; exact Room.new' (by simp) rfl
  have HB : Hid (Below w.heap.size w ((w.alloc (.cells #[.int .i64 0, .int .i64 0, .int .i64 0, .int .i64 0, .int .i64 0, .int .i64 0] 47)).alloc (.cells #[.int .i64 0, .int .i64 0, .int .i64 0] 23))) := by show Below _ _ _; (repeat' first | exact Below.refl _ _ | apply bl_alloc | apply bl_drewN | apply bl_drew | refine bl_trans ?_ (by assumption) | refine bl_set ?_ (by first | omega | (simp <;> omega)) _)
  have HC1 : Code w.heap.size ((w.alloc (.cells #[.int .i64 0, .int .i64 0, .int .i64 0, .int .i64 0, .int .i64 0, .int .i64 0] 47)).alloc (.cells #[.int .i64 0, .int .i64 0, .int .i64 0] 23)) a0 len := fun i hi => by
    obtain ⟨B, off, h1, h2, z, h3, h4, h5⟩ := HC i hi
    exact ⟨B, off, h1, h2, z, h3, h4, (World.cell?_alloc_old _ _ _ (by show B ≠ _; rw [World.size_alloc]; omega)).trans ((World.cell?_alloc_old _ _ _ (by show B ≠ w.heap.size; omega)).trans h5)⟩
  go_enter Tryd.func28, Tryd.ntmps28
  go_wp2_with fail
  refine (open_any w.heap.size a0 len cap _ (by simp) hc HC1).mono ?_
  rintro e w1 ⟨R, len', rfl, hb, hRb, hR⟩
  have hz1 := hb.size
  (try simp at hz1)
  (try simp at hRb)
  have K : Hid (RX w R a0 len' cap 0 (w.heap.size) 2 (w.heap.size + 1) 1 [] w1) := by
    show RX _ _ _ _ _ _ _ _ _ _ _ _
    exact ⟨HB.out.trans (hb.mono HB.out.size), hR, by omega, by omega, by omega, by omega, HM0.out.below hb (by simp), HM1.out.below hb (by simp), fun e he => by cases he⟩
  clear HM0 HM1 HB HC1 hb hR HC
  go_wp2_with fail
  refine (l91Jones_any (Nat.le_of_ble_eq_true rfl) K.out.rd).mono ?_
  rintro e w2 ⟨v, rfl, ⟨a, rfl⟩, hO, hR⟩
  have hz2 := hO.size
  have hRl := K.out.rd.lt
  have K := Lib.hid (K.out.own hO hR)
  clear hO hR
  obtain ⟨V, hV⟩ : ∃ V, V = (w2.alloc (.cells #[.int .i64 a.x.re, .int .i64 a.x.im, .int .i64 a.x.den, .int .i64 a.y.re, .int .i64 a.y.im, .int .i64 a.y.den] 47)) := ⟨_, rfl⟩
  have K : Hid (RX w R a0 len' cap (0 + 20) (w.heap.size) 2 (w.heap.size + 1) 1 [(w2.heap.size, [.int .i64 a.x.re, .int .i64 a.x.im, .int .i64 a.x.den, .int .i64 a.y.re, .int .i64 a.y.im, .int .i64 a.y.den])] V) := by
    show RX _ _ _ _ _ _ _ _ _ _ _ _
    rw [hV]
    exact (K.out.alloc _).add (by simp) (by omega) (rangeAt_new _ _ _)
  have hzV : w2.heap.size < V.heap.size := by rw [hV]; simp
  go_upto_region 3 with fail
  rw [← hV]
  clear hV
  have nRV : R < V.heap.size := by omega
  go_cut [] (fun wx => ∃ b : Fr, Below w.heap.size w wx ∧ BoxAt wx (w.heap.size) (j2k a) 2 ∧ BoxAt wx (w.heap.size + 1) (fun _ => b) 1)
  case first =>
    have K0 := Lib.hid K.out.drew
    refine wp_region_held_drew (S := (fun w' => w'.cell? ⟨w2.heap.size, 0, none⟩ = some (.int .i64 a.x.re) ∧ w'.cell? ⟨w2.heap.size, 1, none⟩ = some (.int .i64 a.x.im) ∧ w'.cell? ⟨w2.heap.size, 2, none⟩ = some (.int .i64 a.x.den) ∧ w'.cell? ⟨w2.heap.size, 3, none⟩ = some (.int .i64 a.y.re) ∧ w'.cell? ⟨w2.heap.size, 4, none⟩ = some (.int .i64 a.y.im) ∧ w'.cell? ⟨w2.heap.size, 5, none⟩ = some (.int .i64 a.y.den))) (by kernel_rfl) (cellsJ (K0.out.box (w2.heap.size, [.int .i64 a.x.re, .int .i64 a.x.im, .int .i64 a.x.den, .int .i64 a.y.re, .int .i64 a.y.im, .int .i64 a.y.den]) (by simp)).2) (fun hHeld => ?_)
    refine wpAnyH_take (i := 0) (v := ?_) rfl (by kernel_rfl) (by kernel_rfl) (by kernel_rfl) (fun _ _ _ h => h) (Or.inl ⟨by rfl, ?_⟩) (by assumption) ?_
    rotate_left
    (focus (intro w hSw; (try dsimp only at hSw); go_simp; (try with_reducible rfl)))
    (try simp only [Act.put, List.getElem_toArray, List.getElem_cons_zero, List.setIfInBounds_toArray, List.set_cons_zero, List.set_cons_succ])
    refine wpAnyH_take (i := 1) (v := ?_) rfl (by kernel_rfl) (by kernel_rfl) (by kernel_rfl) (fun _ _ _ h => h) (Or.inl ⟨by rfl, ?_⟩) (by assumption) ?_
    rotate_left
    (focus (intro w hSw; (try dsimp only at hSw); go_simp; (try with_reducible rfl)))
    (try simp only [Act.put, List.getElem_toArray, List.getElem_cons_succ, List.getElem_cons_zero, List.setIfInBounds_toArray, List.set_cons_zero, List.set_cons_succ])
    refine wpAnyH_ready (rs := [2]) (by kernel_rfl) (by simp) ?_
    refine AllReadyH.cons rfl (fun Kp hK => ?_) AllReadyH.nil
    go_simp
    go_at_call 84
    (with_reducible refine Calls.mono (l91Frac_any (N := w.heap.size) (R := R) (a0 := a0) (len := len') (cap := cap) (k := (0 + 20)) (Nat.le_of_ble_eq_true rfl) K0.out.rd) ?_)
    rintro e w8 ⟨v, rfl, ⟨b, rfl⟩, hO, hR⟩
    have K8 := Lib.hid (K0.out.own hO hR)
    clear hO hR
    refine hK.out _ _ (cellsJ (K8.out.box (w2.heap.size, [.int .i64 a.x.re, .int .i64 a.x.im, .int .i64 a.x.den, .int .i64 a.y.re, .int .i64 a.y.im, .int .i64 a.y.den]) (by simp)).2) (fun hHeld => ?_)
    clear hK Kp
    (try simp only [Act.put, List.getElem_toArray, List.getElem_cons_succ, List.getElem_cons_zero, List.setIfInBounds_toArray, List.set_cons_zero, List.set_cons_succ])
    have hlo0 := K8.out.l0
    have hlo1 := K8.out.l1
    have hnr0 := K8.out.r0
    have hnr1 := K8.out.r1
    obtain ⟨y0_0, e0_0⟩ := Option.isSome_iff_exists.1 (K8.out.m0 0 (by omega)).1
    have f0_0 := (K8.out.m0 0 (by omega)).2
    obtain ⟨y0_1, e0_1⟩ := Option.isSome_iff_exists.1 (K8.out.m0 1 (by omega)).1
    have f0_1 := (K8.out.m0 1 (by omega)).2
    obtain ⟨y0_2, e0_2⟩ := Option.isSome_iff_exists.1 (K8.out.m0 2 (by omega)).1
    have f0_2 := (K8.out.m0 2 (by omega)).2
    obtain ⟨y0_3, e0_3⟩ := Option.isSome_iff_exists.1 (K8.out.m0 3 (by omega)).1
    have f0_3 := (K8.out.m0 3 (by omega)).2
    obtain ⟨y0_4, e0_4⟩ := Option.isSome_iff_exists.1 (K8.out.m0 4 (by omega)).1
    have f0_4 := (K8.out.m0 4 (by omega)).2
    obtain ⟨y0_5, e0_5⟩ := Option.isSome_iff_exists.1 (K8.out.m0 5 (by omega)).1
    have f0_5 := (K8.out.m0 5 (by omega)).2
    obtain ⟨y1_0, e1_0⟩ := Option.isSome_iff_exists.1 (K8.out.m1 0 (by omega)).1
    have f1_0 := (K8.out.m1 0 (by omega)).2
    obtain ⟨y1_1, e1_1⟩ := Option.isSome_iff_exists.1 (K8.out.m1 1 (by omega)).1
    have f1_1 := (K8.out.m1 1 (by omega)).2
    obtain ⟨y1_2, e1_2⟩ := Option.isSome_iff_exists.1 (K8.out.m1 2 (by omega)).1
    have f1_2 := (K8.out.m1 2 (by omega)).2
    have KS := Lib.hid (K8.out.store (D := w.heap.size) (by intro e he; obtain rfl := List.mem_singleton.1 he; show w2.heap.size ≠ _; omega) hnr0 (by omega) [.int .i64 a.x.re, .int .i64 a.x.im, .int .i64 a.x.den, .int .i64 a.y.re, .int .i64 a.y.im, .int .i64 a.y.den])
    have KT := Lib.hid (KS.out.store (D := w.heap.size + 1) (by intro e he; obtain rfl := List.mem_singleton.1 he; show w2.heap.size ≠ _; omega) hnr1 (by omega) [.int .i64 b.re, .int .i64 b.im, .int .i64 b.den])
    have KS := Lib.hid (by have hh := KS.out; simp only [World.setCells, Nat.zero_add, Nat.reduceAdd] at hh; exact hh)
    have KT := Lib.hid (by have hh := KT.out; simp only [World.setCells, Nat.zero_add, Nat.reduceAdd] at hh; exact hh)
    refine wpAnyH_ready (rs := [3]) (by kernel_rfl) (by simp) ?_
    refine AllReadyH.cons rfl (fun Kp hK => ?_) AllReadyH.nil
    go_simp
    refine hK.out _ _ (cellsJ (KS.out.box (w2.heap.size, [.int .i64 a.x.re, .int .i64 a.x.im, .int .i64 a.x.den, .int .i64 a.y.re, .int .i64 a.y.im, .int .i64 a.y.den]) (by simp)).2) (fun hHeld => ?_)
    clear hK Kp
    (try simp only [Act.put, List.getElem_toArray, List.getElem_cons_succ, List.getElem_cons_zero, List.setIfInBounds_toArray, List.set_cons_zero, List.set_cons_succ])
    refine wpAnyH_ready (rs := [4]) (by kernel_rfl) (by simp) ?_
    refine AllReadyH.cons rfl (fun Kp hK => ?_) AllReadyH.nil
    go_simp
    refine hK.out _ _ (cellsJ (KT.out.box (w2.heap.size, [.int .i64 a.x.re, .int .i64 a.x.im, .int .i64 a.x.den, .int .i64 a.y.re, .int .i64 a.y.im, .int .i64 a.y.den]) (by simp)).2) (fun hHeld => ?_)
    clear hK Kp
    (try simp only [Act.put, List.getElem_toArray, List.getElem_cons_succ, List.getElem_cons_zero, List.setIfInBounds_toArray, List.set_cons_zero, List.set_cons_succ])
    refine wpAnyH_done (by kernel_rfl) ?_ _
    clear hHeld
    go_wp2_with fail
    go_meet
    have r0 := K8.out.m0
    have r1 := K8.out.m1
    have hb8 := K8.out.below
    refine ⟨b, ?_, ?_, ?_⟩
    · iterate 9 refine Below.setCell ?_ (by show _ ≤ _; first | exact Nat.le_refl _ | exact Nat.le_succ _) _
      exact hb8
    · iterate 3 refine BoxAt.far ?_ (by omega)
      exact box2 r0
    · refine box1 ?_
      iterate 6 refine Room.set ?_ _ _
      exact r1
  case rest =>
  obtain ⟨b, hB, h0, h1⟩ := hcut
  have k0 := h0.j6
  have k1 := (h1 0 (by omega))
  go_wp2
  refine bodyPost_ret (v := .tuple #[.agg #[.int .i64 a.x.re, .int .i64 a.x.im, .int .i64 a.x.den, .int .i64 a.y.re, .int .i64 a.y.im, .int .i64 a.y.den], .agg #[.int .i64 b.re, .int .i64 b.im, .int .i64 b.den]]) (by simp [results, Tryd.results28, go_sem, *]) rfl ⟨a, b, rfl, hB⟩
end Go.Proofs.YtmcokdiopcpifaaDoor
