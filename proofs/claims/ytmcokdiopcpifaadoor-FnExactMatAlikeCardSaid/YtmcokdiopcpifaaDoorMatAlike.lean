/- The program's MatAlike answers what the reference's answers, for all arguments. The row lists package-level variables, and the card ties them to the text of the program: the pruned copy of the project that the seat holds. -/
import Derived.Test.YtmcokdiopcpifaaDoorO
import Derived.Test.YtmcokdiopcpifaaDoorPV
import Derived.Test.YtmcokdiopcpifaaDoorTie
import Derived.Test.YtmcokdiopcpifaaDoorCards
import Derived.SevenTiedAt
import Derived.Test.YtmcokdiopcpifaaDoorSMI
import Derived.Test.YtmcokdiopcpifaaDoorM
set_option maxRecDepth 100000
namespace Go.Proofs.YtmcokdiopcpifaaDoor
open Go.ChangeShapes Go.WideShapes Go.ChangeAt Go.RowKit Pol

set_option maxRecDepth 100000 in
set_option maxHeartbeats 8000000 in
theorem walk_FnExactMatAlike (a : M4) (b : M4) (w : World) (hg_zero : Gat w 1 (ixF f0) 1) :
    Calls Tryd.prog 5 #[.agg #[.int .i64 a.a.re, .int .i64 a.a.im, .int .i64 a.a.den, .int .i64 a.b.re, .int .i64 a.b.im, .int .i64 a.b.den, .int .i64 a.c.re, .int .i64 a.c.im, .int .i64 a.c.den, .int .i64 a.d.re, .int .i64 a.d.im, .int .i64 a.d.den], .agg #[.int .i64 b.a.re, .int .i64 b.a.im, .int .i64 b.a.den, .int .i64 b.b.re, .int .i64 b.b.im, .int .i64 b.b.den, .int .i64 b.c.re, .int .i64 b.c.im, .int .i64 b.c.den, .int .i64 b.d.re, .int .i64 b.d.im, .int .i64 b.d.den]] w (fun e w' => e = .returned (.bool true) ∧ Below w.heap.size w w') := by
  cases hm : gMAl a b
  · skip
    have HB : Hid (Below w.heap.size w w) := Below.refl _ _
    have HG_zero := Lib.hid hg_zero; clear hg_zero
    go_enter Tryd.func5, Tryd.ntmps5
    go_wp2_with fail
    refine wp_region_held_drew (S := (fun w' => (w'.cell? ⟨w.heap.size, 0, none⟩ = some (.int .i64 a.a.re) ∧ w'.cell? ⟨w.heap.size, 1, none⟩ = some (.int .i64 a.a.im) ∧ w'.cell? ⟨w.heap.size, 2, none⟩ = some (.int .i64 a.a.den) ∧ w'.cell? ⟨w.heap.size, 3, none⟩ = some (.int .i64 a.b.re) ∧ w'.cell? ⟨w.heap.size, 4, none⟩ = some (.int .i64 a.b.im) ∧ w'.cell? ⟨w.heap.size, 5, none⟩ = some (.int .i64 a.b.den) ∧ w'.cell? ⟨w.heap.size, 6, none⟩ = some (.int .i64 a.c.re) ∧ w'.cell? ⟨w.heap.size, 7, none⟩ = some (.int .i64 a.c.im) ∧ w'.cell? ⟨w.heap.size, 8, none⟩ = some (.int .i64 a.c.den) ∧ w'.cell? ⟨w.heap.size, 9, none⟩ = some (.int .i64 a.d.re) ∧ w'.cell? ⟨w.heap.size, 10, none⟩ = some (.int .i64 a.d.im) ∧ w'.cell? ⟨w.heap.size, 11, none⟩ = some (.int .i64 a.d.den)) ∧ (w'.cell? ⟨w.heap.size + 1, 0, none⟩ = some (.int .i64 b.a.re) ∧ w'.cell? ⟨w.heap.size + 1, 1, none⟩ = some (.int .i64 b.a.im) ∧ w'.cell? ⟨w.heap.size + 1, 2, none⟩ = some (.int .i64 b.a.den) ∧ w'.cell? ⟨w.heap.size + 1, 3, none⟩ = some (.int .i64 b.b.re) ∧ w'.cell? ⟨w.heap.size + 1, 4, none⟩ = some (.int .i64 b.b.im) ∧ w'.cell? ⟨w.heap.size + 1, 5, none⟩ = some (.int .i64 b.b.den) ∧ w'.cell? ⟨w.heap.size + 1, 6, none⟩ = some (.int .i64 b.c.re) ∧ w'.cell? ⟨w.heap.size + 1, 7, none⟩ = some (.int .i64 b.c.im) ∧ w'.cell? ⟨w.heap.size + 1, 8, none⟩ = some (.int .i64 b.c.den) ∧ w'.cell? ⟨w.heap.size + 1, 9, none⟩ = some (.int .i64 b.d.re) ∧ w'.cell? ⟨w.heap.size + 1, 10, none⟩ = some (.int .i64 b.d.im) ∧ w'.cell? ⟨w.heap.size + 1, 11, none⟩ = some (.int .i64 b.d.den)))) (by kernel_rfl) (show _ from ⟨(cellsM (show World.rangeAt (World.drew ((w.alloc (.cells #[.int .i64 a.a.re, .int .i64 a.a.im, .int .i64 a.a.den, .int .i64 a.b.re, .int .i64 a.b.im, .int .i64 a.b.den, .int .i64 a.c.re, .int .i64 a.c.im, .int .i64 a.c.den, .int .i64 a.d.re, .int .i64 a.d.im, .int .i64 a.d.den] 37)).alloc (.cells #[.int .i64 b.a.re, .int .i64 b.a.im, .int .i64 b.a.den, .int .i64 b.b.re, .int .i64 b.b.im, .int .i64 b.b.den, .int .i64 b.c.re, .int .i64 b.c.im, .int .i64 b.c.den, .int .i64 b.d.re, .int .i64 b.d.im, .int .i64 b.d.den] 37))) (w.heap.size) 0 [.int .i64 a.a.re, .int .i64 a.a.im, .int .i64 a.a.den, .int .i64 a.b.re, .int .i64 a.b.im, .int .i64 a.b.den, .int .i64 a.c.re, .int .i64 a.c.im, .int .i64 a.c.den, .int .i64 a.d.re, .int .i64 a.d.im, .int .i64 a.d.den] from (World.rangeAt_alloc (rangeAt_new _ _ _) _))), (cellsM (show World.rangeAt (World.drew ((w.alloc (.cells #[.int .i64 a.a.re, .int .i64 a.a.im, .int .i64 a.a.den, .int .i64 a.b.re, .int .i64 a.b.im, .int .i64 a.b.den, .int .i64 a.c.re, .int .i64 a.c.im, .int .i64 a.c.den, .int .i64 a.d.re, .int .i64 a.d.im, .int .i64 a.d.den] 37)).alloc (.cells #[.int .i64 b.a.re, .int .i64 b.a.im, .int .i64 b.a.den, .int .i64 b.b.re, .int .i64 b.b.im, .int .i64 b.b.den, .int .i64 b.c.re, .int .i64 b.c.im, .int .i64 b.c.den, .int .i64 b.d.re, .int .i64 b.d.im, .int .i64 b.d.den] 37))) (w.heap.size + 1) 0 [.int .i64 b.a.re, .int .i64 b.a.im, .int .i64 b.a.den, .int .i64 b.b.re, .int .i64 b.b.im, .int .i64 b.b.den, .int .i64 b.c.re, .int .i64 b.c.im, .int .i64 b.c.den, .int .i64 b.d.re, .int .i64 b.d.im, .int .i64 b.d.den] from (rangeAt_nw (by simp))))⟩) (fun hHeld => ?_)
    refine wpAnyH_take (i := 0) (v := ?_) rfl (by kernel_rfl) (by kernel_rfl) (by kernel_rfl) (fun _ _ _ h => h) (Or.inl ⟨by rfl, ?_⟩) (by assumption) ?_
    rotate_left
    (focus (intro w hSw; (try dsimp only at hSw); go_simp; (try with_reducible rfl)))
    (try simp only [Act.put, List.getElem_toArray, List.getElem_cons_zero, List.setIfInBounds_toArray, List.set_cons_zero, List.set_cons_succ])
    refine wpAnyH_take (i := 2) (v := ?_) rfl (by kernel_rfl) (by kernel_rfl) (by kernel_rfl) (fun _ _ _ h => h) (Or.inl ⟨by rfl, ?_⟩) (by assumption) ?_
    rotate_left
    (focus (intro w hSw; (try dsimp only at hSw); go_simp; (try with_reducible rfl)))
    (try simp only [Act.put, List.getElem_toArray, List.getElem_cons_succ, List.getElem_cons_zero, List.setIfInBounds_toArray, List.set_cons_zero, List.set_cons_succ])
    refine wpAnyH_ready (rs := [1]) (by kernel_rfl) (by simp) ?_
    refine AllReadyH.cons rfl (fun K hK => ?_) AllReadyH.nil
    go_simp
    go_at_call 22
    (with_reducible refine (toMat_any a _).mono ?_)
    rintro e w1 ho
    obtain ⟨rfl, hb⟩ : e = .returned (.agg #[.int .i64 a.a.re, .int .i64 a.a.im, .int .i64 a.a.den, .int .i64 a.b.re, .int .i64 a.b.im, .int .i64 a.b.den, .int .i64 a.c.re, .int .i64 a.c.im, .int .i64 a.c.den, .int .i64 a.d.re, .int .i64 a.d.im, .int .i64 a.d.den]) ∧ Below _ _ _ := (id ho)
    clear ho
    have HB := Lib.hid (show Below w.heap.size w w1 from HB.out.trans ((show Below _ _ _ from ((((Below.refl _ _).alloc (by first | omega | (simp; done) | (simp <;> omega)) _).alloc (by first | omega | (simp; done) | (simp <;> omega)) _).drew)).trans (hb.mono (by first | omega | (simp <;> omega)))))
    have Ha : Hid (w1.rangeAt (w.heap.size) 0 [.int .i64 a.a.re, .int .i64 a.a.im, .int .i64 a.a.den, .int .i64 a.b.re, .int .i64 a.b.im, .int .i64 a.b.den, .int .i64 a.c.re, .int .i64 a.c.im, .int .i64 a.c.den, .int .i64 a.d.re, .int .i64 a.d.im, .int .i64 a.d.den]) := rangeAt_below (show World.rangeAt (World.drew ((w.alloc (.cells #[.int .i64 a.a.re, .int .i64 a.a.im, .int .i64 a.a.den, .int .i64 a.b.re, .int .i64 a.b.im, .int .i64 a.b.den, .int .i64 a.c.re, .int .i64 a.c.im, .int .i64 a.c.den, .int .i64 a.d.re, .int .i64 a.d.im, .int .i64 a.d.den] 37)).alloc (.cells #[.int .i64 b.a.re, .int .i64 b.a.im, .int .i64 b.a.den, .int .i64 b.b.re, .int .i64 b.b.im, .int .i64 b.b.den, .int .i64 b.c.re, .int .i64 b.c.im, .int .i64 b.c.den, .int .i64 b.d.re, .int .i64 b.d.im, .int .i64 b.d.den] 37))) (w.heap.size) 0 [.int .i64 a.a.re, .int .i64 a.a.im, .int .i64 a.a.den, .int .i64 a.b.re, .int .i64 a.b.im, .int .i64 a.b.den, .int .i64 a.c.re, .int .i64 a.c.im, .int .i64 a.c.den, .int .i64 a.d.re, .int .i64 a.d.im, .int .i64 a.d.den] from (World.rangeAt_alloc (rangeAt_new _ _ _) _)) hb (by first | omega | (simp; done) | (simp <;> omega))
    have Hb : Hid (w1.rangeAt (w.heap.size + 1) 0 [.int .i64 b.a.re, .int .i64 b.a.im, .int .i64 b.a.den, .int .i64 b.b.re, .int .i64 b.b.im, .int .i64 b.b.den, .int .i64 b.c.re, .int .i64 b.c.im, .int .i64 b.c.den, .int .i64 b.d.re, .int .i64 b.d.im, .int .i64 b.d.den]) := rangeAt_below (show World.rangeAt (World.drew ((w.alloc (.cells #[.int .i64 a.a.re, .int .i64 a.a.im, .int .i64 a.a.den, .int .i64 a.b.re, .int .i64 a.b.im, .int .i64 a.b.den, .int .i64 a.c.re, .int .i64 a.c.im, .int .i64 a.c.den, .int .i64 a.d.re, .int .i64 a.d.im, .int .i64 a.d.den] 37)).alloc (.cells #[.int .i64 b.a.re, .int .i64 b.a.im, .int .i64 b.a.den, .int .i64 b.b.re, .int .i64 b.b.im, .int .i64 b.b.den, .int .i64 b.c.re, .int .i64 b.c.im, .int .i64 b.c.den, .int .i64 b.d.re, .int .i64 b.d.im, .int .i64 b.d.den] 37))) (w.heap.size + 1) 0 [.int .i64 b.a.re, .int .i64 b.a.im, .int .i64 b.a.den, .int .i64 b.b.re, .int .i64 b.b.im, .int .i64 b.b.den, .int .i64 b.c.re, .int .i64 b.c.im, .int .i64 b.c.den, .int .i64 b.d.re, .int .i64 b.d.im, .int .i64 b.d.den] from (rangeAt_nw (by simp))) hb (by first | omega | (simp; done) | (simp <;> omega))
    have hz1 := hb.size
    (try simp at hz1)
    clear hb
    have nA0 : w.heap.size < w1.heap.size := by omega
    have nB0 : ¬ w.heap.size = w1.heap.size := by omega
    have nC0 : ¬ w1.heap.size = w.heap.size := by omega
    have nA1 : w.heap.size + 1 < w1.heap.size := by omega
    have nB1 : ¬ w.heap.size + 1 = w1.heap.size := by omega
    have nC1 : ¬ w1.heap.size = w.heap.size + 1 := by omega
    refine hK.out _ _ (show _ from ⟨(cellsM Ha.out), (cellsM Hb.out)⟩) (fun hHeld => ?_)
    clear hK K
    (try simp only [Act.put, List.getElem_toArray, List.getElem_cons_succ, List.getElem_cons_zero, List.setIfInBounds_toArray, List.set_cons_zero, List.set_cons_succ])
    refine wpAnyH_ready (rs := [3]) (by kernel_rfl) (by simp) ?_
    refine AllReadyH.cons rfl (fun K hK => ?_) AllReadyH.nil
    go_simp
    go_at_call 22
    (with_reducible refine (toMat_any b _).mono ?_)
    rintro e w2 ho
    obtain ⟨rfl, hb⟩ : e = .returned (.agg #[.int .i64 b.a.re, .int .i64 b.a.im, .int .i64 b.a.den, .int .i64 b.b.re, .int .i64 b.b.im, .int .i64 b.b.den, .int .i64 b.c.re, .int .i64 b.c.im, .int .i64 b.c.den, .int .i64 b.d.re, .int .i64 b.d.im, .int .i64 b.d.den]) ∧ Below _ _ _ := (id ho)
    clear ho
    have HB := Lib.hid (show Below w.heap.size w w2 from HB.out.trans ((show Below _ _ _ from (Below.refl _ _)).trans (hb.mono (by first | omega | (simp <;> omega)))))
    have Ha : Hid (w2.rangeAt (w.heap.size) 0 [.int .i64 a.a.re, .int .i64 a.a.im, .int .i64 a.a.den, .int .i64 a.b.re, .int .i64 a.b.im, .int .i64 a.b.den, .int .i64 a.c.re, .int .i64 a.c.im, .int .i64 a.c.den, .int .i64 a.d.re, .int .i64 a.d.im, .int .i64 a.d.den]) := rangeAt_below Ha.out hb (by first | omega | (simp; done) | (simp <;> omega))
    have Hb : Hid (w2.rangeAt (w.heap.size + 1) 0 [.int .i64 b.a.re, .int .i64 b.a.im, .int .i64 b.a.den, .int .i64 b.b.re, .int .i64 b.b.im, .int .i64 b.b.den, .int .i64 b.c.re, .int .i64 b.c.im, .int .i64 b.c.den, .int .i64 b.d.re, .int .i64 b.d.im, .int .i64 b.d.den]) := rangeAt_below Hb.out hb (by first | omega | (simp; done) | (simp <;> omega))
    have hz2 := hb.size
    (try simp at hz2)
    clear hb
    have nA0 : w.heap.size < w2.heap.size := by omega
    have nB0 : ¬ w.heap.size = w2.heap.size := by omega
    have nC0 : ¬ w2.heap.size = w.heap.size := by omega
    have nA1 : w.heap.size + 1 < w2.heap.size := by omega
    have nB1 : ¬ w.heap.size + 1 = w2.heap.size := by omega
    have nC1 : ¬ w2.heap.size = w.heap.size + 1 := by omega
    refine hK.out _ _ (show _ from ⟨(cellsM Ha.out), (cellsM Hb.out)⟩) (fun hHeld => ?_)
    clear hK K
    (try simp only [Act.put, List.getElem_toArray, List.getElem_cons_succ, List.getElem_cons_zero, List.setIfInBounds_toArray, List.set_cons_zero, List.set_cons_succ])
    refine wpAnyH_ready (rs := [4]) (by kernel_rfl) (by simp) ?_
    refine AllReadyH.cons rfl (fun K hK => ?_) AllReadyH.nil
    go_simp
    go_at_call 21
    (with_reducible refine (smal_any a b _).mono ?_)
    rintro e w3 ho
    rw [hm] at ho
    obtain ⟨rfl, hb⟩ : e = .returned (.bool false) ∧ Below _ _ _ := (id ho)
    clear ho
    have HB := Lib.hid (show Below w.heap.size w w3 from HB.out.trans ((show Below _ _ _ from (Below.refl _ _)).trans (hb.mono (by first | omega | (simp <;> omega)))))
    have Ha : Hid (w3.rangeAt (w.heap.size) 0 [.int .i64 a.a.re, .int .i64 a.a.im, .int .i64 a.a.den, .int .i64 a.b.re, .int .i64 a.b.im, .int .i64 a.b.den, .int .i64 a.c.re, .int .i64 a.c.im, .int .i64 a.c.den, .int .i64 a.d.re, .int .i64 a.d.im, .int .i64 a.d.den]) := rangeAt_below Ha.out hb (by first | omega | (simp; done) | (simp <;> omega))
    have Hb : Hid (w3.rangeAt (w.heap.size + 1) 0 [.int .i64 b.a.re, .int .i64 b.a.im, .int .i64 b.a.den, .int .i64 b.b.re, .int .i64 b.b.im, .int .i64 b.b.den, .int .i64 b.c.re, .int .i64 b.c.im, .int .i64 b.c.den, .int .i64 b.d.re, .int .i64 b.d.im, .int .i64 b.d.den]) := rangeAt_below Hb.out hb (by first | omega | (simp; done) | (simp <;> omega))
    have hz3 := hb.size
    (try simp at hz3)
    clear hb
    have nA0 : w.heap.size < w3.heap.size := by omega
    have nB0 : ¬ w.heap.size = w3.heap.size := by omega
    have nC0 : ¬ w3.heap.size = w.heap.size := by omega
    have nA1 : w.heap.size + 1 < w3.heap.size := by omega
    have nB1 : ¬ w.heap.size + 1 = w3.heap.size := by omega
    have nC1 : ¬ w3.heap.size = w.heap.size + 1 := by omega
    refine hK.out _ _ (show _ from ⟨(cellsM Ha.out), (cellsM Hb.out)⟩) (fun hHeld => ?_)
    clear hK K
    (try simp only [Act.put, List.getElem_toArray, List.getElem_cons_succ, List.getElem_cons_zero, List.setIfInBounds_toArray, List.set_cons_zero, List.set_cons_succ])
    refine wpAnyH_take (i := 5) (v := ?_) rfl (by kernel_rfl) (by kernel_rfl) (by kernel_rfl) (fun _ _ _ h => h) (Or.inl ⟨by rfl, ?_⟩) (by assumption) ?_
    rotate_left
    (focus (intro w hSw; (try dsimp only at hSw); go_simp; (try with_reducible rfl)))
    (try simp only [Act.put, List.getElem_toArray, List.getElem_cons_succ, List.getElem_cons_zero, List.setIfInBounds_toArray, List.set_cons_zero, List.set_cons_succ])
    refine wpAnyH_done (by kernel_rfl) ?_ _
    clear hHeld
    go_wp2_with fail
    refine wp_region_held_drew (S := (fun w' => (w'.cell? ⟨w.heap.size, 0, none⟩ = some (.int .i64 a.a.re) ∧ w'.cell? ⟨w.heap.size, 1, none⟩ = some (.int .i64 a.a.im) ∧ w'.cell? ⟨w.heap.size, 2, none⟩ = some (.int .i64 a.a.den) ∧ w'.cell? ⟨w.heap.size, 3, none⟩ = some (.int .i64 a.b.re) ∧ w'.cell? ⟨w.heap.size, 4, none⟩ = some (.int .i64 a.b.im) ∧ w'.cell? ⟨w.heap.size, 5, none⟩ = some (.int .i64 a.b.den) ∧ w'.cell? ⟨w.heap.size, 6, none⟩ = some (.int .i64 a.c.re) ∧ w'.cell? ⟨w.heap.size, 7, none⟩ = some (.int .i64 a.c.im) ∧ w'.cell? ⟨w.heap.size, 8, none⟩ = some (.int .i64 a.c.den) ∧ w'.cell? ⟨w.heap.size, 9, none⟩ = some (.int .i64 a.d.re) ∧ w'.cell? ⟨w.heap.size, 10, none⟩ = some (.int .i64 a.d.im) ∧ w'.cell? ⟨w.heap.size, 11, none⟩ = some (.int .i64 a.d.den)) ∧ (w'.cell? ⟨w.heap.size + 1, 0, none⟩ = some (.int .i64 b.a.re) ∧ w'.cell? ⟨w.heap.size + 1, 1, none⟩ = some (.int .i64 b.a.im) ∧ w'.cell? ⟨w.heap.size + 1, 2, none⟩ = some (.int .i64 b.a.den) ∧ w'.cell? ⟨w.heap.size + 1, 3, none⟩ = some (.int .i64 b.b.re) ∧ w'.cell? ⟨w.heap.size + 1, 4, none⟩ = some (.int .i64 b.b.im) ∧ w'.cell? ⟨w.heap.size + 1, 5, none⟩ = some (.int .i64 b.b.den) ∧ w'.cell? ⟨w.heap.size + 1, 6, none⟩ = some (.int .i64 b.c.re) ∧ w'.cell? ⟨w.heap.size + 1, 7, none⟩ = some (.int .i64 b.c.im) ∧ w'.cell? ⟨w.heap.size + 1, 8, none⟩ = some (.int .i64 b.c.den) ∧ w'.cell? ⟨w.heap.size + 1, 9, none⟩ = some (.int .i64 b.d.re) ∧ w'.cell? ⟨w.heap.size + 1, 10, none⟩ = some (.int .i64 b.d.im) ∧ w'.cell? ⟨w.heap.size + 1, 11, none⟩ = some (.int .i64 b.d.den)))) (by kernel_rfl) (show _ from ⟨(cellsM (show World.rangeAt (World.drew w3) (w.heap.size) 0 [.int .i64 a.a.re, .int .i64 a.a.im, .int .i64 a.a.den, .int .i64 a.b.re, .int .i64 a.b.im, .int .i64 a.b.den, .int .i64 a.c.re, .int .i64 a.c.im, .int .i64 a.c.den, .int .i64 a.d.re, .int .i64 a.d.im, .int .i64 a.d.den] from Ha.out)), (cellsM (show World.rangeAt (World.drew w3) (w.heap.size + 1) 0 [.int .i64 b.a.re, .int .i64 b.a.im, .int .i64 b.a.den, .int .i64 b.b.re, .int .i64 b.b.im, .int .i64 b.b.den, .int .i64 b.c.re, .int .i64 b.c.im, .int .i64 b.c.den, .int .i64 b.d.re, .int .i64 b.d.im, .int .i64 b.d.den] from Hb.out))⟩) (fun hHeld => ?_)
    refine wpAnyH_take (i := 0) (v := ?_) rfl (by kernel_rfl) (by kernel_rfl) (by kernel_rfl) (fun _ _ _ h => h) (Or.inl ⟨by rfl, ?_⟩) (by assumption) ?_
    rotate_left
    (focus (intro w hSw; (try dsimp only at hSw); go_simp; (try with_reducible rfl)))
    (try simp only [Act.put, List.getElem_toArray, List.getElem_cons_zero, List.setIfInBounds_toArray, List.set_cons_zero, List.set_cons_succ])
    refine wpAnyH_take (i := 2) (v := ?_) rfl (by kernel_rfl) (by kernel_rfl) (by kernel_rfl) (fun _ _ _ h => h) (Or.inl ⟨by rfl, ?_⟩) (by assumption) ?_
    rotate_left
    (focus (intro w hSw; (try dsimp only at hSw); go_simp; (try with_reducible rfl)))
    (try simp only [Act.put, List.getElem_toArray, List.getElem_cons_succ, List.getElem_cons_zero, List.setIfInBounds_toArray, List.set_cons_zero, List.set_cons_succ])
    refine wpAnyH_ready (rs := [1]) (by kernel_rfl) (by simp) ?_
    refine AllReadyH.cons rfl (fun K hK => ?_) AllReadyH.nil
    go_simp
    go_at_call 22
    (with_reducible refine (toMat_any a _).mono ?_)
    rintro e w4 ho
    obtain ⟨rfl, hb⟩ : e = .returned (.agg #[.int .i64 a.a.re, .int .i64 a.a.im, .int .i64 a.a.den, .int .i64 a.b.re, .int .i64 a.b.im, .int .i64 a.b.den, .int .i64 a.c.re, .int .i64 a.c.im, .int .i64 a.c.den, .int .i64 a.d.re, .int .i64 a.d.im, .int .i64 a.d.den]) ∧ Below _ _ _ := (id ho)
    clear ho
    have HB := Lib.hid (show Below w.heap.size w w4 from HB.out.trans ((show Below _ _ _ from ((Below.refl _ _).drew)).trans (hb.mono (by first | omega | (simp <;> omega)))))
    have Ha : Hid (w4.rangeAt (w.heap.size) 0 [.int .i64 a.a.re, .int .i64 a.a.im, .int .i64 a.a.den, .int .i64 a.b.re, .int .i64 a.b.im, .int .i64 a.b.den, .int .i64 a.c.re, .int .i64 a.c.im, .int .i64 a.c.den, .int .i64 a.d.re, .int .i64 a.d.im, .int .i64 a.d.den]) := rangeAt_below (show World.rangeAt (World.drew w3) (w.heap.size) 0 [.int .i64 a.a.re, .int .i64 a.a.im, .int .i64 a.a.den, .int .i64 a.b.re, .int .i64 a.b.im, .int .i64 a.b.den, .int .i64 a.c.re, .int .i64 a.c.im, .int .i64 a.c.den, .int .i64 a.d.re, .int .i64 a.d.im, .int .i64 a.d.den] from Ha.out) hb (by first | omega | (simp; done) | (simp <;> omega))
    have Hb : Hid (w4.rangeAt (w.heap.size + 1) 0 [.int .i64 b.a.re, .int .i64 b.a.im, .int .i64 b.a.den, .int .i64 b.b.re, .int .i64 b.b.im, .int .i64 b.b.den, .int .i64 b.c.re, .int .i64 b.c.im, .int .i64 b.c.den, .int .i64 b.d.re, .int .i64 b.d.im, .int .i64 b.d.den]) := rangeAt_below (show World.rangeAt (World.drew w3) (w.heap.size + 1) 0 [.int .i64 b.a.re, .int .i64 b.a.im, .int .i64 b.a.den, .int .i64 b.b.re, .int .i64 b.b.im, .int .i64 b.b.den, .int .i64 b.c.re, .int .i64 b.c.im, .int .i64 b.c.den, .int .i64 b.d.re, .int .i64 b.d.im, .int .i64 b.d.den] from Hb.out) hb (by first | omega | (simp; done) | (simp <;> omega))
    have hz4 := hb.size
    (try simp at hz4)
    clear hb
    have nA0 : w.heap.size < w4.heap.size := by omega
    have nB0 : ¬ w.heap.size = w4.heap.size := by omega
    have nC0 : ¬ w4.heap.size = w.heap.size := by omega
    have nA1 : w.heap.size + 1 < w4.heap.size := by omega
    have nB1 : ¬ w.heap.size + 1 = w4.heap.size := by omega
    have nC1 : ¬ w4.heap.size = w.heap.size + 1 := by omega
    refine hK.out _ _ (show _ from ⟨(cellsM Ha.out), (cellsM Hb.out)⟩) (fun hHeld => ?_)
    clear hK K
    (try simp only [Act.put, List.getElem_toArray, List.getElem_cons_succ, List.getElem_cons_zero, List.setIfInBounds_toArray, List.set_cons_zero, List.set_cons_succ])
    refine wpAnyH_ready (rs := [3]) (by kernel_rfl) (by simp) ?_
    refine AllReadyH.cons rfl (fun K hK => ?_) AllReadyH.nil
    go_simp
    go_at_call 22
    (with_reducible refine (toMat_any b _).mono ?_)
    rintro e w5 ho
    obtain ⟨rfl, hb⟩ : e = .returned (.agg #[.int .i64 b.a.re, .int .i64 b.a.im, .int .i64 b.a.den, .int .i64 b.b.re, .int .i64 b.b.im, .int .i64 b.b.den, .int .i64 b.c.re, .int .i64 b.c.im, .int .i64 b.c.den, .int .i64 b.d.re, .int .i64 b.d.im, .int .i64 b.d.den]) ∧ Below _ _ _ := (id ho)
    clear ho
    have HB := Lib.hid (show Below w.heap.size w w5 from HB.out.trans ((show Below _ _ _ from (Below.refl _ _)).trans (hb.mono (by first | omega | (simp <;> omega)))))
    have Ha : Hid (w5.rangeAt (w.heap.size) 0 [.int .i64 a.a.re, .int .i64 a.a.im, .int .i64 a.a.den, .int .i64 a.b.re, .int .i64 a.b.im, .int .i64 a.b.den, .int .i64 a.c.re, .int .i64 a.c.im, .int .i64 a.c.den, .int .i64 a.d.re, .int .i64 a.d.im, .int .i64 a.d.den]) := rangeAt_below Ha.out hb (by first | omega | (simp; done) | (simp <;> omega))
    have Hb : Hid (w5.rangeAt (w.heap.size + 1) 0 [.int .i64 b.a.re, .int .i64 b.a.im, .int .i64 b.a.den, .int .i64 b.b.re, .int .i64 b.b.im, .int .i64 b.b.den, .int .i64 b.c.re, .int .i64 b.c.im, .int .i64 b.c.den, .int .i64 b.d.re, .int .i64 b.d.im, .int .i64 b.d.den]) := rangeAt_below Hb.out hb (by first | omega | (simp; done) | (simp <;> omega))
    have hz5 := hb.size
    (try simp at hz5)
    clear hb
    have nA0 : w.heap.size < w5.heap.size := by omega
    have nB0 : ¬ w.heap.size = w5.heap.size := by omega
    have nC0 : ¬ w5.heap.size = w.heap.size := by omega
    have nA1 : w.heap.size + 1 < w5.heap.size := by omega
    have nB1 : ¬ w.heap.size + 1 = w5.heap.size := by omega
    have nC1 : ¬ w5.heap.size = w.heap.size + 1 := by omega
    refine hK.out _ _ (show _ from ⟨(cellsM Ha.out), (cellsM Hb.out)⟩) (fun hHeld => ?_)
    clear hK K
    (try simp only [Act.put, List.getElem_toArray, List.getElem_cons_succ, List.getElem_cons_zero, List.setIfInBounds_toArray, List.set_cons_zero, List.set_cons_succ])
    refine wpAnyH_ready (rs := [4]) (by kernel_rfl) (by simp) ?_
    refine AllReadyH.cons rfl (fun K hK => ?_) AllReadyH.nil
    go_simp
    go_at_call 23
    (with_reducible refine (imal_any a b _ (HG_zero.out.below HB.out)).mono ?_)
    rintro e w6 ho
    rw [hm] at ho
    obtain ⟨rfl, hb⟩ : e = .returned (.bool false) ∧ Below _ _ _ := (id ho)
    clear ho
    have HB := Lib.hid (show Below w.heap.size w w6 from HB.out.trans ((show Below _ _ _ from (Below.refl _ _)).trans (hb.mono (by first | omega | (simp <;> omega)))))
    have Ha : Hid (w6.rangeAt (w.heap.size) 0 [.int .i64 a.a.re, .int .i64 a.a.im, .int .i64 a.a.den, .int .i64 a.b.re, .int .i64 a.b.im, .int .i64 a.b.den, .int .i64 a.c.re, .int .i64 a.c.im, .int .i64 a.c.den, .int .i64 a.d.re, .int .i64 a.d.im, .int .i64 a.d.den]) := rangeAt_below Ha.out hb (by first | omega | (simp; done) | (simp <;> omega))
    have Hb : Hid (w6.rangeAt (w.heap.size + 1) 0 [.int .i64 b.a.re, .int .i64 b.a.im, .int .i64 b.a.den, .int .i64 b.b.re, .int .i64 b.b.im, .int .i64 b.b.den, .int .i64 b.c.re, .int .i64 b.c.im, .int .i64 b.c.den, .int .i64 b.d.re, .int .i64 b.d.im, .int .i64 b.d.den]) := rangeAt_below Hb.out hb (by first | omega | (simp; done) | (simp <;> omega))
    have hz6 := hb.size
    (try simp at hz6)
    clear hb
    have nA0 : w.heap.size < w6.heap.size := by omega
    have nB0 : ¬ w.heap.size = w6.heap.size := by omega
    have nC0 : ¬ w6.heap.size = w.heap.size := by omega
    have nA1 : w.heap.size + 1 < w6.heap.size := by omega
    have nB1 : ¬ w.heap.size + 1 = w6.heap.size := by omega
    have nC1 : ¬ w6.heap.size = w.heap.size + 1 := by omega
    refine hK.out _ _ (show _ from ⟨(cellsM Ha.out), (cellsM Hb.out)⟩) (fun hHeld => ?_)
    clear hK K
    (try simp only [Act.put, List.getElem_toArray, List.getElem_cons_succ, List.getElem_cons_zero, List.setIfInBounds_toArray, List.set_cons_zero, List.set_cons_succ])
    refine wpAnyH_take (i := 5) (v := ?_) rfl (by kernel_rfl) (by kernel_rfl) (by kernel_rfl) (fun _ _ _ h => h) (Or.inl ⟨by rfl, ?_⟩) (by assumption) ?_
    rotate_left
    (focus (intro w hSw; (try dsimp only at hSw); go_simp; (try with_reducible rfl)))
    (try simp only [Act.put, List.getElem_toArray, List.getElem_cons_succ, List.getElem_cons_zero, List.setIfInBounds_toArray, List.set_cons_zero, List.set_cons_succ])
    refine wpAnyH_done (by kernel_rfl) ?_ _
    clear hHeld
    go_wp2_with fail
    go_ret
    exact ⟨rfl, (by (repeat' first | (with_reducible exact HB.out) | with_reducible refine setCells_below _ _ _ ?_ (by first | omega | (simp <;> omega)) | with_reducible refine Below.setCell ?_ (by show _ ≤ _; first | omega | (simp <;> omega) | simp) _ | with_reducible refine Below.alloc ?_ (by first | omega | (simp <;> omega)) _ | with_reducible apply Below.drew | with_reducible refine below_drewN ?_ _))⟩
  · skip
    have HB : Hid (Below w.heap.size w w) := Below.refl _ _
    have HG_zero := Lib.hid hg_zero; clear hg_zero
    go_enter Tryd.func5, Tryd.ntmps5
    go_wp2_with fail
    refine wp_region_held_drew (S := (fun w' => (w'.cell? ⟨w.heap.size, 0, none⟩ = some (.int .i64 a.a.re) ∧ w'.cell? ⟨w.heap.size, 1, none⟩ = some (.int .i64 a.a.im) ∧ w'.cell? ⟨w.heap.size, 2, none⟩ = some (.int .i64 a.a.den) ∧ w'.cell? ⟨w.heap.size, 3, none⟩ = some (.int .i64 a.b.re) ∧ w'.cell? ⟨w.heap.size, 4, none⟩ = some (.int .i64 a.b.im) ∧ w'.cell? ⟨w.heap.size, 5, none⟩ = some (.int .i64 a.b.den) ∧ w'.cell? ⟨w.heap.size, 6, none⟩ = some (.int .i64 a.c.re) ∧ w'.cell? ⟨w.heap.size, 7, none⟩ = some (.int .i64 a.c.im) ∧ w'.cell? ⟨w.heap.size, 8, none⟩ = some (.int .i64 a.c.den) ∧ w'.cell? ⟨w.heap.size, 9, none⟩ = some (.int .i64 a.d.re) ∧ w'.cell? ⟨w.heap.size, 10, none⟩ = some (.int .i64 a.d.im) ∧ w'.cell? ⟨w.heap.size, 11, none⟩ = some (.int .i64 a.d.den)) ∧ (w'.cell? ⟨w.heap.size + 1, 0, none⟩ = some (.int .i64 b.a.re) ∧ w'.cell? ⟨w.heap.size + 1, 1, none⟩ = some (.int .i64 b.a.im) ∧ w'.cell? ⟨w.heap.size + 1, 2, none⟩ = some (.int .i64 b.a.den) ∧ w'.cell? ⟨w.heap.size + 1, 3, none⟩ = some (.int .i64 b.b.re) ∧ w'.cell? ⟨w.heap.size + 1, 4, none⟩ = some (.int .i64 b.b.im) ∧ w'.cell? ⟨w.heap.size + 1, 5, none⟩ = some (.int .i64 b.b.den) ∧ w'.cell? ⟨w.heap.size + 1, 6, none⟩ = some (.int .i64 b.c.re) ∧ w'.cell? ⟨w.heap.size + 1, 7, none⟩ = some (.int .i64 b.c.im) ∧ w'.cell? ⟨w.heap.size + 1, 8, none⟩ = some (.int .i64 b.c.den) ∧ w'.cell? ⟨w.heap.size + 1, 9, none⟩ = some (.int .i64 b.d.re) ∧ w'.cell? ⟨w.heap.size + 1, 10, none⟩ = some (.int .i64 b.d.im) ∧ w'.cell? ⟨w.heap.size + 1, 11, none⟩ = some (.int .i64 b.d.den)))) (by kernel_rfl) (show _ from ⟨(cellsM (show World.rangeAt (World.drew ((w.alloc (.cells #[.int .i64 a.a.re, .int .i64 a.a.im, .int .i64 a.a.den, .int .i64 a.b.re, .int .i64 a.b.im, .int .i64 a.b.den, .int .i64 a.c.re, .int .i64 a.c.im, .int .i64 a.c.den, .int .i64 a.d.re, .int .i64 a.d.im, .int .i64 a.d.den] 37)).alloc (.cells #[.int .i64 b.a.re, .int .i64 b.a.im, .int .i64 b.a.den, .int .i64 b.b.re, .int .i64 b.b.im, .int .i64 b.b.den, .int .i64 b.c.re, .int .i64 b.c.im, .int .i64 b.c.den, .int .i64 b.d.re, .int .i64 b.d.im, .int .i64 b.d.den] 37))) (w.heap.size) 0 [.int .i64 a.a.re, .int .i64 a.a.im, .int .i64 a.a.den, .int .i64 a.b.re, .int .i64 a.b.im, .int .i64 a.b.den, .int .i64 a.c.re, .int .i64 a.c.im, .int .i64 a.c.den, .int .i64 a.d.re, .int .i64 a.d.im, .int .i64 a.d.den] from (World.rangeAt_alloc (rangeAt_new _ _ _) _))), (cellsM (show World.rangeAt (World.drew ((w.alloc (.cells #[.int .i64 a.a.re, .int .i64 a.a.im, .int .i64 a.a.den, .int .i64 a.b.re, .int .i64 a.b.im, .int .i64 a.b.den, .int .i64 a.c.re, .int .i64 a.c.im, .int .i64 a.c.den, .int .i64 a.d.re, .int .i64 a.d.im, .int .i64 a.d.den] 37)).alloc (.cells #[.int .i64 b.a.re, .int .i64 b.a.im, .int .i64 b.a.den, .int .i64 b.b.re, .int .i64 b.b.im, .int .i64 b.b.den, .int .i64 b.c.re, .int .i64 b.c.im, .int .i64 b.c.den, .int .i64 b.d.re, .int .i64 b.d.im, .int .i64 b.d.den] 37))) (w.heap.size + 1) 0 [.int .i64 b.a.re, .int .i64 b.a.im, .int .i64 b.a.den, .int .i64 b.b.re, .int .i64 b.b.im, .int .i64 b.b.den, .int .i64 b.c.re, .int .i64 b.c.im, .int .i64 b.c.den, .int .i64 b.d.re, .int .i64 b.d.im, .int .i64 b.d.den] from (rangeAt_nw (by simp))))⟩) (fun hHeld => ?_)
    refine wpAnyH_take (i := 0) (v := ?_) rfl (by kernel_rfl) (by kernel_rfl) (by kernel_rfl) (fun _ _ _ h => h) (Or.inl ⟨by rfl, ?_⟩) (by assumption) ?_
    rotate_left
    (focus (intro w hSw; (try dsimp only at hSw); go_simp; (try with_reducible rfl)))
    (try simp only [Act.put, List.getElem_toArray, List.getElem_cons_zero, List.setIfInBounds_toArray, List.set_cons_zero, List.set_cons_succ])
    refine wpAnyH_take (i := 2) (v := ?_) rfl (by kernel_rfl) (by kernel_rfl) (by kernel_rfl) (fun _ _ _ h => h) (Or.inl ⟨by rfl, ?_⟩) (by assumption) ?_
    rotate_left
    (focus (intro w hSw; (try dsimp only at hSw); go_simp; (try with_reducible rfl)))
    (try simp only [Act.put, List.getElem_toArray, List.getElem_cons_succ, List.getElem_cons_zero, List.setIfInBounds_toArray, List.set_cons_zero, List.set_cons_succ])
    refine wpAnyH_ready (rs := [1]) (by kernel_rfl) (by simp) ?_
    refine AllReadyH.cons rfl (fun K hK => ?_) AllReadyH.nil
    go_simp
    go_at_call 22
    (with_reducible refine (toMat_any a _).mono ?_)
    rintro e w1 ho
    obtain ⟨rfl, hb⟩ : e = .returned (.agg #[.int .i64 a.a.re, .int .i64 a.a.im, .int .i64 a.a.den, .int .i64 a.b.re, .int .i64 a.b.im, .int .i64 a.b.den, .int .i64 a.c.re, .int .i64 a.c.im, .int .i64 a.c.den, .int .i64 a.d.re, .int .i64 a.d.im, .int .i64 a.d.den]) ∧ Below _ _ _ := (id ho)
    clear ho
    have HB := Lib.hid (show Below w.heap.size w w1 from HB.out.trans ((show Below _ _ _ from ((((Below.refl _ _).alloc (by first | omega | (simp; done) | (simp <;> omega)) _).alloc (by first | omega | (simp; done) | (simp <;> omega)) _).drew)).trans (hb.mono (by first | omega | (simp <;> omega)))))
    have Ha : Hid (w1.rangeAt (w.heap.size) 0 [.int .i64 a.a.re, .int .i64 a.a.im, .int .i64 a.a.den, .int .i64 a.b.re, .int .i64 a.b.im, .int .i64 a.b.den, .int .i64 a.c.re, .int .i64 a.c.im, .int .i64 a.c.den, .int .i64 a.d.re, .int .i64 a.d.im, .int .i64 a.d.den]) := rangeAt_below (show World.rangeAt (World.drew ((w.alloc (.cells #[.int .i64 a.a.re, .int .i64 a.a.im, .int .i64 a.a.den, .int .i64 a.b.re, .int .i64 a.b.im, .int .i64 a.b.den, .int .i64 a.c.re, .int .i64 a.c.im, .int .i64 a.c.den, .int .i64 a.d.re, .int .i64 a.d.im, .int .i64 a.d.den] 37)).alloc (.cells #[.int .i64 b.a.re, .int .i64 b.a.im, .int .i64 b.a.den, .int .i64 b.b.re, .int .i64 b.b.im, .int .i64 b.b.den, .int .i64 b.c.re, .int .i64 b.c.im, .int .i64 b.c.den, .int .i64 b.d.re, .int .i64 b.d.im, .int .i64 b.d.den] 37))) (w.heap.size) 0 [.int .i64 a.a.re, .int .i64 a.a.im, .int .i64 a.a.den, .int .i64 a.b.re, .int .i64 a.b.im, .int .i64 a.b.den, .int .i64 a.c.re, .int .i64 a.c.im, .int .i64 a.c.den, .int .i64 a.d.re, .int .i64 a.d.im, .int .i64 a.d.den] from (World.rangeAt_alloc (rangeAt_new _ _ _) _)) hb (by first | omega | (simp; done) | (simp <;> omega))
    have Hb : Hid (w1.rangeAt (w.heap.size + 1) 0 [.int .i64 b.a.re, .int .i64 b.a.im, .int .i64 b.a.den, .int .i64 b.b.re, .int .i64 b.b.im, .int .i64 b.b.den, .int .i64 b.c.re, .int .i64 b.c.im, .int .i64 b.c.den, .int .i64 b.d.re, .int .i64 b.d.im, .int .i64 b.d.den]) := rangeAt_below (show World.rangeAt (World.drew ((w.alloc (.cells #[.int .i64 a.a.re, .int .i64 a.a.im, .int .i64 a.a.den, .int .i64 a.b.re, .int .i64 a.b.im, .int .i64 a.b.den, .int .i64 a.c.re, .int .i64 a.c.im, .int .i64 a.c.den, .int .i64 a.d.re, .int .i64 a.d.im, .int .i64 a.d.den] 37)).alloc (.cells #[.int .i64 b.a.re, .int .i64 b.a.im, .int .i64 b.a.den, .int .i64 b.b.re, .int .i64 b.b.im, .int .i64 b.b.den, .int .i64 b.c.re, .int .i64 b.c.im, .int .i64 b.c.den, .int .i64 b.d.re, .int .i64 b.d.im, .int .i64 b.d.den] 37))) (w.heap.size + 1) 0 [.int .i64 b.a.re, .int .i64 b.a.im, .int .i64 b.a.den, .int .i64 b.b.re, .int .i64 b.b.im, .int .i64 b.b.den, .int .i64 b.c.re, .int .i64 b.c.im, .int .i64 b.c.den, .int .i64 b.d.re, .int .i64 b.d.im, .int .i64 b.d.den] from (rangeAt_nw (by simp))) hb (by first | omega | (simp; done) | (simp <;> omega))
    have hz1 := hb.size
    (try simp at hz1)
    clear hb
    have nA0 : w.heap.size < w1.heap.size := by omega
    have nB0 : ¬ w.heap.size = w1.heap.size := by omega
    have nC0 : ¬ w1.heap.size = w.heap.size := by omega
    have nA1 : w.heap.size + 1 < w1.heap.size := by omega
    have nB1 : ¬ w.heap.size + 1 = w1.heap.size := by omega
    have nC1 : ¬ w1.heap.size = w.heap.size + 1 := by omega
    refine hK.out _ _ (show _ from ⟨(cellsM Ha.out), (cellsM Hb.out)⟩) (fun hHeld => ?_)
    clear hK K
    (try simp only [Act.put, List.getElem_toArray, List.getElem_cons_succ, List.getElem_cons_zero, List.setIfInBounds_toArray, List.set_cons_zero, List.set_cons_succ])
    refine wpAnyH_ready (rs := [3]) (by kernel_rfl) (by simp) ?_
    refine AllReadyH.cons rfl (fun K hK => ?_) AllReadyH.nil
    go_simp
    go_at_call 22
    (with_reducible refine (toMat_any b _).mono ?_)
    rintro e w2 ho
    obtain ⟨rfl, hb⟩ : e = .returned (.agg #[.int .i64 b.a.re, .int .i64 b.a.im, .int .i64 b.a.den, .int .i64 b.b.re, .int .i64 b.b.im, .int .i64 b.b.den, .int .i64 b.c.re, .int .i64 b.c.im, .int .i64 b.c.den, .int .i64 b.d.re, .int .i64 b.d.im, .int .i64 b.d.den]) ∧ Below _ _ _ := (id ho)
    clear ho
    have HB := Lib.hid (show Below w.heap.size w w2 from HB.out.trans ((show Below _ _ _ from (Below.refl _ _)).trans (hb.mono (by first | omega | (simp <;> omega)))))
    have Ha : Hid (w2.rangeAt (w.heap.size) 0 [.int .i64 a.a.re, .int .i64 a.a.im, .int .i64 a.a.den, .int .i64 a.b.re, .int .i64 a.b.im, .int .i64 a.b.den, .int .i64 a.c.re, .int .i64 a.c.im, .int .i64 a.c.den, .int .i64 a.d.re, .int .i64 a.d.im, .int .i64 a.d.den]) := rangeAt_below Ha.out hb (by first | omega | (simp; done) | (simp <;> omega))
    have Hb : Hid (w2.rangeAt (w.heap.size + 1) 0 [.int .i64 b.a.re, .int .i64 b.a.im, .int .i64 b.a.den, .int .i64 b.b.re, .int .i64 b.b.im, .int .i64 b.b.den, .int .i64 b.c.re, .int .i64 b.c.im, .int .i64 b.c.den, .int .i64 b.d.re, .int .i64 b.d.im, .int .i64 b.d.den]) := rangeAt_below Hb.out hb (by first | omega | (simp; done) | (simp <;> omega))
    have hz2 := hb.size
    (try simp at hz2)
    clear hb
    have nA0 : w.heap.size < w2.heap.size := by omega
    have nB0 : ¬ w.heap.size = w2.heap.size := by omega
    have nC0 : ¬ w2.heap.size = w.heap.size := by omega
    have nA1 : w.heap.size + 1 < w2.heap.size := by omega
    have nB1 : ¬ w.heap.size + 1 = w2.heap.size := by omega
    have nC1 : ¬ w2.heap.size = w.heap.size + 1 := by omega
    refine hK.out _ _ (show _ from ⟨(cellsM Ha.out), (cellsM Hb.out)⟩) (fun hHeld => ?_)
    clear hK K
    (try simp only [Act.put, List.getElem_toArray, List.getElem_cons_succ, List.getElem_cons_zero, List.setIfInBounds_toArray, List.set_cons_zero, List.set_cons_succ])
    refine wpAnyH_ready (rs := [4]) (by kernel_rfl) (by simp) ?_
    refine AllReadyH.cons rfl (fun K hK => ?_) AllReadyH.nil
    go_simp
    go_at_call 21
    (with_reducible refine (smal_any a b _).mono ?_)
    rintro e w3 ho
    rw [hm] at ho
    obtain ⟨rfl, hb⟩ : e = .returned (.bool true) ∧ Below _ _ _ := (id ho)
    clear ho
    have HB := Lib.hid (show Below w.heap.size w w3 from HB.out.trans ((show Below _ _ _ from (Below.refl _ _)).trans (hb.mono (by first | omega | (simp <;> omega)))))
    have Ha : Hid (w3.rangeAt (w.heap.size) 0 [.int .i64 a.a.re, .int .i64 a.a.im, .int .i64 a.a.den, .int .i64 a.b.re, .int .i64 a.b.im, .int .i64 a.b.den, .int .i64 a.c.re, .int .i64 a.c.im, .int .i64 a.c.den, .int .i64 a.d.re, .int .i64 a.d.im, .int .i64 a.d.den]) := rangeAt_below Ha.out hb (by first | omega | (simp; done) | (simp <;> omega))
    have Hb : Hid (w3.rangeAt (w.heap.size + 1) 0 [.int .i64 b.a.re, .int .i64 b.a.im, .int .i64 b.a.den, .int .i64 b.b.re, .int .i64 b.b.im, .int .i64 b.b.den, .int .i64 b.c.re, .int .i64 b.c.im, .int .i64 b.c.den, .int .i64 b.d.re, .int .i64 b.d.im, .int .i64 b.d.den]) := rangeAt_below Hb.out hb (by first | omega | (simp; done) | (simp <;> omega))
    have hz3 := hb.size
    (try simp at hz3)
    clear hb
    have nA0 : w.heap.size < w3.heap.size := by omega
    have nB0 : ¬ w.heap.size = w3.heap.size := by omega
    have nC0 : ¬ w3.heap.size = w.heap.size := by omega
    have nA1 : w.heap.size + 1 < w3.heap.size := by omega
    have nB1 : ¬ w.heap.size + 1 = w3.heap.size := by omega
    have nC1 : ¬ w3.heap.size = w.heap.size + 1 := by omega
    refine hK.out _ _ (show _ from ⟨(cellsM Ha.out), (cellsM Hb.out)⟩) (fun hHeld => ?_)
    clear hK K
    (try simp only [Act.put, List.getElem_toArray, List.getElem_cons_succ, List.getElem_cons_zero, List.setIfInBounds_toArray, List.set_cons_zero, List.set_cons_succ])
    refine wpAnyH_take (i := 5) (v := ?_) rfl (by kernel_rfl) (by kernel_rfl) (by kernel_rfl) (fun _ _ _ h => h) (Or.inl ⟨by rfl, ?_⟩) (by assumption) ?_
    rotate_left
    (focus (intro w hSw; (try dsimp only at hSw); go_simp; (try with_reducible rfl)))
    (try simp only [Act.put, List.getElem_toArray, List.getElem_cons_succ, List.getElem_cons_zero, List.setIfInBounds_toArray, List.set_cons_zero, List.set_cons_succ])
    refine wpAnyH_done (by kernel_rfl) ?_ _
    clear hHeld
    go_wp2_with fail
    refine wp_region_held_drew (S := (fun w' => (w'.cell? ⟨w.heap.size, 0, none⟩ = some (.int .i64 a.a.re) ∧ w'.cell? ⟨w.heap.size, 1, none⟩ = some (.int .i64 a.a.im) ∧ w'.cell? ⟨w.heap.size, 2, none⟩ = some (.int .i64 a.a.den) ∧ w'.cell? ⟨w.heap.size, 3, none⟩ = some (.int .i64 a.b.re) ∧ w'.cell? ⟨w.heap.size, 4, none⟩ = some (.int .i64 a.b.im) ∧ w'.cell? ⟨w.heap.size, 5, none⟩ = some (.int .i64 a.b.den) ∧ w'.cell? ⟨w.heap.size, 6, none⟩ = some (.int .i64 a.c.re) ∧ w'.cell? ⟨w.heap.size, 7, none⟩ = some (.int .i64 a.c.im) ∧ w'.cell? ⟨w.heap.size, 8, none⟩ = some (.int .i64 a.c.den) ∧ w'.cell? ⟨w.heap.size, 9, none⟩ = some (.int .i64 a.d.re) ∧ w'.cell? ⟨w.heap.size, 10, none⟩ = some (.int .i64 a.d.im) ∧ w'.cell? ⟨w.heap.size, 11, none⟩ = some (.int .i64 a.d.den)) ∧ (w'.cell? ⟨w.heap.size + 1, 0, none⟩ = some (.int .i64 b.a.re) ∧ w'.cell? ⟨w.heap.size + 1, 1, none⟩ = some (.int .i64 b.a.im) ∧ w'.cell? ⟨w.heap.size + 1, 2, none⟩ = some (.int .i64 b.a.den) ∧ w'.cell? ⟨w.heap.size + 1, 3, none⟩ = some (.int .i64 b.b.re) ∧ w'.cell? ⟨w.heap.size + 1, 4, none⟩ = some (.int .i64 b.b.im) ∧ w'.cell? ⟨w.heap.size + 1, 5, none⟩ = some (.int .i64 b.b.den) ∧ w'.cell? ⟨w.heap.size + 1, 6, none⟩ = some (.int .i64 b.c.re) ∧ w'.cell? ⟨w.heap.size + 1, 7, none⟩ = some (.int .i64 b.c.im) ∧ w'.cell? ⟨w.heap.size + 1, 8, none⟩ = some (.int .i64 b.c.den) ∧ w'.cell? ⟨w.heap.size + 1, 9, none⟩ = some (.int .i64 b.d.re) ∧ w'.cell? ⟨w.heap.size + 1, 10, none⟩ = some (.int .i64 b.d.im) ∧ w'.cell? ⟨w.heap.size + 1, 11, none⟩ = some (.int .i64 b.d.den)))) (by kernel_rfl) (show _ from ⟨(cellsM (show World.rangeAt (World.drew w3) (w.heap.size) 0 [.int .i64 a.a.re, .int .i64 a.a.im, .int .i64 a.a.den, .int .i64 a.b.re, .int .i64 a.b.im, .int .i64 a.b.den, .int .i64 a.c.re, .int .i64 a.c.im, .int .i64 a.c.den, .int .i64 a.d.re, .int .i64 a.d.im, .int .i64 a.d.den] from Ha.out)), (cellsM (show World.rangeAt (World.drew w3) (w.heap.size + 1) 0 [.int .i64 b.a.re, .int .i64 b.a.im, .int .i64 b.a.den, .int .i64 b.b.re, .int .i64 b.b.im, .int .i64 b.b.den, .int .i64 b.c.re, .int .i64 b.c.im, .int .i64 b.c.den, .int .i64 b.d.re, .int .i64 b.d.im, .int .i64 b.d.den] from Hb.out))⟩) (fun hHeld => ?_)
    refine wpAnyH_take (i := 0) (v := ?_) rfl (by kernel_rfl) (by kernel_rfl) (by kernel_rfl) (fun _ _ _ h => h) (Or.inl ⟨by rfl, ?_⟩) (by assumption) ?_
    rotate_left
    (focus (intro w hSw; (try dsimp only at hSw); go_simp; (try with_reducible rfl)))
    (try simp only [Act.put, List.getElem_toArray, List.getElem_cons_zero, List.setIfInBounds_toArray, List.set_cons_zero, List.set_cons_succ])
    refine wpAnyH_take (i := 2) (v := ?_) rfl (by kernel_rfl) (by kernel_rfl) (by kernel_rfl) (fun _ _ _ h => h) (Or.inl ⟨by rfl, ?_⟩) (by assumption) ?_
    rotate_left
    (focus (intro w hSw; (try dsimp only at hSw); go_simp; (try with_reducible rfl)))
    (try simp only [Act.put, List.getElem_toArray, List.getElem_cons_succ, List.getElem_cons_zero, List.setIfInBounds_toArray, List.set_cons_zero, List.set_cons_succ])
    refine wpAnyH_ready (rs := [1]) (by kernel_rfl) (by simp) ?_
    refine AllReadyH.cons rfl (fun K hK => ?_) AllReadyH.nil
    go_simp
    go_at_call 22
    (with_reducible refine (toMat_any a _).mono ?_)
    rintro e w4 ho
    obtain ⟨rfl, hb⟩ : e = .returned (.agg #[.int .i64 a.a.re, .int .i64 a.a.im, .int .i64 a.a.den, .int .i64 a.b.re, .int .i64 a.b.im, .int .i64 a.b.den, .int .i64 a.c.re, .int .i64 a.c.im, .int .i64 a.c.den, .int .i64 a.d.re, .int .i64 a.d.im, .int .i64 a.d.den]) ∧ Below _ _ _ := (id ho)
    clear ho
    have HB := Lib.hid (show Below w.heap.size w w4 from HB.out.trans ((show Below _ _ _ from ((Below.refl _ _).drew)).trans (hb.mono (by first | omega | (simp <;> omega)))))
    have Ha : Hid (w4.rangeAt (w.heap.size) 0 [.int .i64 a.a.re, .int .i64 a.a.im, .int .i64 a.a.den, .int .i64 a.b.re, .int .i64 a.b.im, .int .i64 a.b.den, .int .i64 a.c.re, .int .i64 a.c.im, .int .i64 a.c.den, .int .i64 a.d.re, .int .i64 a.d.im, .int .i64 a.d.den]) := rangeAt_below (show World.rangeAt (World.drew w3) (w.heap.size) 0 [.int .i64 a.a.re, .int .i64 a.a.im, .int .i64 a.a.den, .int .i64 a.b.re, .int .i64 a.b.im, .int .i64 a.b.den, .int .i64 a.c.re, .int .i64 a.c.im, .int .i64 a.c.den, .int .i64 a.d.re, .int .i64 a.d.im, .int .i64 a.d.den] from Ha.out) hb (by first | omega | (simp; done) | (simp <;> omega))
    have Hb : Hid (w4.rangeAt (w.heap.size + 1) 0 [.int .i64 b.a.re, .int .i64 b.a.im, .int .i64 b.a.den, .int .i64 b.b.re, .int .i64 b.b.im, .int .i64 b.b.den, .int .i64 b.c.re, .int .i64 b.c.im, .int .i64 b.c.den, .int .i64 b.d.re, .int .i64 b.d.im, .int .i64 b.d.den]) := rangeAt_below (show World.rangeAt (World.drew w3) (w.heap.size + 1) 0 [.int .i64 b.a.re, .int .i64 b.a.im, .int .i64 b.a.den, .int .i64 b.b.re, .int .i64 b.b.im, .int .i64 b.b.den, .int .i64 b.c.re, .int .i64 b.c.im, .int .i64 b.c.den, .int .i64 b.d.re, .int .i64 b.d.im, .int .i64 b.d.den] from Hb.out) hb (by first | omega | (simp; done) | (simp <;> omega))
    have hz4 := hb.size
    (try simp at hz4)
    clear hb
    have nA0 : w.heap.size < w4.heap.size := by omega
    have nB0 : ¬ w.heap.size = w4.heap.size := by omega
    have nC0 : ¬ w4.heap.size = w.heap.size := by omega
    have nA1 : w.heap.size + 1 < w4.heap.size := by omega
    have nB1 : ¬ w.heap.size + 1 = w4.heap.size := by omega
    have nC1 : ¬ w4.heap.size = w.heap.size + 1 := by omega
    refine hK.out _ _ (show _ from ⟨(cellsM Ha.out), (cellsM Hb.out)⟩) (fun hHeld => ?_)
    clear hK K
    (try simp only [Act.put, List.getElem_toArray, List.getElem_cons_succ, List.getElem_cons_zero, List.setIfInBounds_toArray, List.set_cons_zero, List.set_cons_succ])
    refine wpAnyH_ready (rs := [3]) (by kernel_rfl) (by simp) ?_
    refine AllReadyH.cons rfl (fun K hK => ?_) AllReadyH.nil
    go_simp
    go_at_call 22
    (with_reducible refine (toMat_any b _).mono ?_)
    rintro e w5 ho
    obtain ⟨rfl, hb⟩ : e = .returned (.agg #[.int .i64 b.a.re, .int .i64 b.a.im, .int .i64 b.a.den, .int .i64 b.b.re, .int .i64 b.b.im, .int .i64 b.b.den, .int .i64 b.c.re, .int .i64 b.c.im, .int .i64 b.c.den, .int .i64 b.d.re, .int .i64 b.d.im, .int .i64 b.d.den]) ∧ Below _ _ _ := (id ho)
    clear ho
    have HB := Lib.hid (show Below w.heap.size w w5 from HB.out.trans ((show Below _ _ _ from (Below.refl _ _)).trans (hb.mono (by first | omega | (simp <;> omega)))))
    have Ha : Hid (w5.rangeAt (w.heap.size) 0 [.int .i64 a.a.re, .int .i64 a.a.im, .int .i64 a.a.den, .int .i64 a.b.re, .int .i64 a.b.im, .int .i64 a.b.den, .int .i64 a.c.re, .int .i64 a.c.im, .int .i64 a.c.den, .int .i64 a.d.re, .int .i64 a.d.im, .int .i64 a.d.den]) := rangeAt_below Ha.out hb (by first | omega | (simp; done) | (simp <;> omega))
    have Hb : Hid (w5.rangeAt (w.heap.size + 1) 0 [.int .i64 b.a.re, .int .i64 b.a.im, .int .i64 b.a.den, .int .i64 b.b.re, .int .i64 b.b.im, .int .i64 b.b.den, .int .i64 b.c.re, .int .i64 b.c.im, .int .i64 b.c.den, .int .i64 b.d.re, .int .i64 b.d.im, .int .i64 b.d.den]) := rangeAt_below Hb.out hb (by first | omega | (simp; done) | (simp <;> omega))
    have hz5 := hb.size
    (try simp at hz5)
    clear hb
    have nA0 : w.heap.size < w5.heap.size := by omega
    have nB0 : ¬ w.heap.size = w5.heap.size := by omega
    have nC0 : ¬ w5.heap.size = w.heap.size := by omega
    have nA1 : w.heap.size + 1 < w5.heap.size := by omega
    have nB1 : ¬ w.heap.size + 1 = w5.heap.size := by omega
    have nC1 : ¬ w5.heap.size = w.heap.size + 1 := by omega
    refine hK.out _ _ (show _ from ⟨(cellsM Ha.out), (cellsM Hb.out)⟩) (fun hHeld => ?_)
    clear hK K
    (try simp only [Act.put, List.getElem_toArray, List.getElem_cons_succ, List.getElem_cons_zero, List.setIfInBounds_toArray, List.set_cons_zero, List.set_cons_succ])
    refine wpAnyH_ready (rs := [4]) (by kernel_rfl) (by simp) ?_
    refine AllReadyH.cons rfl (fun K hK => ?_) AllReadyH.nil
    go_simp
    go_at_call 23
    (with_reducible refine (imal_any a b _ (HG_zero.out.below HB.out)).mono ?_)
    rintro e w6 ho
    rw [hm] at ho
    obtain ⟨rfl, hb⟩ : e = .returned (.bool true) ∧ Below _ _ _ := (id ho)
    clear ho
    have HB := Lib.hid (show Below w.heap.size w w6 from HB.out.trans ((show Below _ _ _ from (Below.refl _ _)).trans (hb.mono (by first | omega | (simp <;> omega)))))
    have Ha : Hid (w6.rangeAt (w.heap.size) 0 [.int .i64 a.a.re, .int .i64 a.a.im, .int .i64 a.a.den, .int .i64 a.b.re, .int .i64 a.b.im, .int .i64 a.b.den, .int .i64 a.c.re, .int .i64 a.c.im, .int .i64 a.c.den, .int .i64 a.d.re, .int .i64 a.d.im, .int .i64 a.d.den]) := rangeAt_below Ha.out hb (by first | omega | (simp; done) | (simp <;> omega))
    have Hb : Hid (w6.rangeAt (w.heap.size + 1) 0 [.int .i64 b.a.re, .int .i64 b.a.im, .int .i64 b.a.den, .int .i64 b.b.re, .int .i64 b.b.im, .int .i64 b.b.den, .int .i64 b.c.re, .int .i64 b.c.im, .int .i64 b.c.den, .int .i64 b.d.re, .int .i64 b.d.im, .int .i64 b.d.den]) := rangeAt_below Hb.out hb (by first | omega | (simp; done) | (simp <;> omega))
    have hz6 := hb.size
    (try simp at hz6)
    clear hb
    have nA0 : w.heap.size < w6.heap.size := by omega
    have nB0 : ¬ w.heap.size = w6.heap.size := by omega
    have nC0 : ¬ w6.heap.size = w.heap.size := by omega
    have nA1 : w.heap.size + 1 < w6.heap.size := by omega
    have nB1 : ¬ w.heap.size + 1 = w6.heap.size := by omega
    have nC1 : ¬ w6.heap.size = w.heap.size + 1 := by omega
    refine hK.out _ _ (show _ from ⟨(cellsM Ha.out), (cellsM Hb.out)⟩) (fun hHeld => ?_)
    clear hK K
    (try simp only [Act.put, List.getElem_toArray, List.getElem_cons_succ, List.getElem_cons_zero, List.setIfInBounds_toArray, List.set_cons_zero, List.set_cons_succ])
    refine wpAnyH_take (i := 5) (v := ?_) rfl (by kernel_rfl) (by kernel_rfl) (by kernel_rfl) (fun _ _ _ h => h) (Or.inl ⟨by rfl, ?_⟩) (by assumption) ?_
    rotate_left
    (focus (intro w hSw; (try dsimp only at hSw); go_simp; (try with_reducible rfl)))
    (try simp only [Act.put, List.getElem_toArray, List.getElem_cons_succ, List.getElem_cons_zero, List.setIfInBounds_toArray, List.set_cons_zero, List.set_cons_succ])
    refine wpAnyH_done (by kernel_rfl) ?_ _
    clear hHeld
    go_wp2_with fail
    go_ret
    exact ⟨rfl, (by (repeat' first | (with_reducible exact HB.out) | with_reducible refine setCells_below _ _ _ ?_ (by first | omega | (simp <;> omega)) | with_reducible refine Below.setCell ?_ (by show _ ≤ _; first | omega | (simp <;> omega) | simp) _ | with_reducible refine Below.alloc ?_ (by first | omega | (simp <;> omega)) _ | with_reducible apply Below.drew | with_reducible refine below_drewN ?_ _))⟩

set_option maxRecDepth 100000 in
theorem door_FnExactMatAlike (os : Os) (args : Array Value) : laidMetH Tryd.prog Rows.fnExactMatAlikeRow.laid ((World.doorLaid Tryd.prog 43 os).forCall (fun _ _ => 0) ⟨#[], args, []⟩).memory :=
  laidMetH_of_parts3 (fuel := 8) (laidMet_of_run' 8 (by kernel_rfl) (by kernel_rfl)) (by kernel_rfl) (by kernel_rfl)
set_option maxRecDepth 100000 in
theorem lifted_FnExactMatAlike (os : Os) (started : os.Started) (H : Type) (enc : TypeId × Value → H) :
    ReturnsInHanded {} Tryd.checked os 5 .any (fun w args => (Rows.fnExactMatAlikeSpec.pre enc Tryd.prog Tryd.f5 [] false w args ∧ laidMetH Tryd.prog Rows.fnExactMatAlikeRow.laid w) ∧ sizedMet enc Tryd.prog Tryd.f5 (OpenSpec.ofChange Rows.fnExactMatAlikeSpec) false w args) (Rows.fnExactMatAlikeSpec.post enc Tryd.prog Tryd.f5 false true false false) := by
  refine returnsInHanded_of_change_and (C := Tryd.checked) (X := fun w _ => laidMetH Tryd.prog Rows.fnExactMatAlikeRow.laid w) (fun _ _ _ hh h => h.of_heap hh) Tryd.own started (by kernel_rfl) Tryd.func5
    (ChangeSpec.witness_shaped (enc := enc) (C := Tryd.checked) (os := os) (X := fun w _ => laidMetH Tryd.prog Rows.fnExactMatAlikeRow.laid w) false (World.doorLaid Tryd.prog 43 os) #[.agg #[.int .i64 0, .int .i64 0, .int .i64 0, .int .i64 0, .int .i64 0, .int .i64 0, .int .i64 0, .int .i64 0, .int .i64 0, .int .i64 0, .int .i64 0, .int .i64 0], .agg #[.int .i64 0, .int .i64 0, .int .i64 0, .int .i64 0, .int .i64 0, .int .i64 0, .int .i64 0, .int .i64 0, .int .i64 0, .int .i64 0, .int .i64 0, .int .i64 0]] 8 rfl (World.shaped_of_RefB (by kernel_rfl) (by kernel_rfl)) (by kernel_rfl) (by kernel_rfl) (by kernel_rfl) (door_FnExactMatAlike os _)) ?_
  intro W base args ds gs before hval0 hW _ _ hL _
  have hval : ∀ (j : Nat) t v, Tryd.f5.params[j]? = some t → args[j]? = some v → Value.okWide Tryd.prog W .any base t v := hval0
  have hW' := hW
  obtain ⟨p, q, hA0, hV, rfl, hfz, hnd⟩ := hW
  have hA : DataW.TrodAll enc Tryd.prog W 0 (fun _ => true) true Tryd.f5.params.toList args.toList ds p := hA0
  rw [Tryd.params5] at hA hval
  obtain ⟨v0, v1, d0, d1, p0, p1, rfl, rfl, rfl, h0, h1⟩ := trodAll_two hA
  obtain ⟨g0, rfl⟩ := len1 (vars_len hV)
  have hG_zero := gat_zero hL (by decide) (by simp [Rows.fnExactMatAlikeRow, Rows.laid_loop_example_polarisedlight_impl_zero])
  obtain ⟨a, rfl⟩ := open_m4 (hval 0 37 v0 rfl rfl)
  obtain ⟨b, rfl⟩ := open_m4 (hval 1 37 v1 rfl rfl)
  clear hA0 hval0
  have hlt : ∀ x ∈ (p0 ++ p1), x.block < W.heap.size := fun x hx => by simpa using hW'.lt x (List.mem_append_left _ hx)
  refine (walk_FnExactMatAlike a b W hG_zero).mono fun e W' ⟨he, hb⟩ => ?_
  subst he
  refine ⟨_, rfl, _, _, _, [], (p0 ++ p1), q, hW', trodAll_mk1 (shut_bool Tryd.underlying4 _), trodAll_mk2 (Below.trod Tryd.laidOut (by kernel_rfl) (of_decide_eq_true (by kernel_rfl)) h0 hb (fun x hx => hlt x (by simp [hx]))) (Below.trod Tryd.laidOut (by kernel_rfl) (of_decide_eq_true (by kernel_rfl)) h1 hb (fun x hx => hlt x (by simp [hx]))), Below.trodVars Tryd.laidOut hb (by kernel_rfl) hV, hb.frame _, fun h => by cases h⟩
theorem said_FnExactMatAlike : Rows.FnExactMatAlikeSaid :=
  OpenClaim.holds_of_wide 5 Tryd.f5 rfl rfl rfl rfl rfl rfl rfl ⟨rfl, rfl, rfl, rfl, rfl⟩ rfl rfl rfl rfl rfl (by kernel_rfl) Tryd.func5 (by kernel_rfl)
    (of_decide_eq_true (by kernel_rfl)) (by unfold Func.isWrapper; first | (rw [if_pos (by decide +kernel)]; kernel_rfl) | (rw [if_neg (by decide +kernel)]; exact ⟨rfl, rfl⟩))
    (fun os started H enc _ => lifted_FnExactMatAlike os started H enc)
set_option maxRecDepth 100000 in
/-- THE STATEMENT: THE CARD. -/
theorem holds_FnExactMatAlike : Rows.FnExactMatAlikeCardSaid :=
  Claim7.holds_tied_plain_at .later [] [.data] true (true, "4641a63997bae2f3f605d4183781842987cd6e93f60671f0fe7f4fb0ecf64798") false
    said_FnExactMatAlike (fun _ h => by cases h) (by kernel_rfl) (fun _ h => by cases h) fnExactMatAlike_row_tie rfl ⟨rfl, rfl⟩ (by kernel_rfl) rfl
    (fun f fn hf hfn => by
      obtain rfl : f = 5 := Option.some.inj ((show Tryd.prog.funcNamed "loop.example/polarisedlight/laws.FnExactMatAlike" = some 5 by kernel_rfl).symm.trans hf) |>.symm
      obtain rfl : fn = Tryd.f5 := (Option.some.inj (Tryd.func5.symm.trans hfn)).symm
      exact ⟨by kernel_rfl, fun j t ht => by
        rw [Tryd.params5] at ht
        have hm : t ∈ [37, 37] := by simpa using Array.mem_of_getElem? ht
        have hall : ([37, 37].all fun u => !Tryd.prog.wantsStandIn u) = true := by kernel_rfl
        exact (show Tryd.prog.wantsStandIn t = false by simpa using List.all_eq_true.1 hall t hm)⟩)
    (by kernel_rfl)
end Go.Proofs.YtmcokdiopcpifaaDoor
