/- Contracts: products across, the program's side. -/
import Derived.Test.YtmcokdiopcpifaaDoorMsG18
import Derived.Test.YtmcokdiopcpifaaDoorMsK
import Derived.Deep.RegionLaw
import Derived.Deep.RegionHeld3
import Derived.BigQuiet
set_option maxRecDepth 100000
namespace Go.Proofs.YtmcokdiopcpifaaDoor
open Go.RowKit Pol
/-- Where the two loops stand. -/
structure CRel (W : World) (A B P : Nat) (a b : M4) (i k : Nat) (wr : World) : Prop where
  le : i ≤ 4
  lk : k ≤ 4
  below : Below W.heap.size W wr
  hA : A < W.heap.size
  hB : B < W.heap.size
  wP : W.heap.size ≤ P
  hP : P < wr.heap.size
  one : BoxAt wr A a.get 4
  two : BoxAt wr B b.get 4
  cell : wr.cell? ⟨P, 0, none⟩ = some (.bool false)
  free : wr.frozen? ⟨P, 0, none⟩ = false
  good : ∀ p q, q < 4 → p < 4 → p ≠ q → (p < i ∨ (p = i ∧ q < k)) → gpB a b p q = true
def CO (W : World) (A B P : Nat) (a b : M4) (v : Value) (wr : World) : Prop := ∃ i : Nat, v = .int .i64 i ∧ CRel W A B P a b i 0 wr
def CI (W : World) (A B P : Nat) (a b : M4) (i : Nat) (v : Value) (wr : World) : Prop := ∃ k : Nat, v = .int .i64 k ∧ CRel W A B P a b i k wr
theorem CRel.drew {W wr : World} {A B P : Nat} {a b : M4} {i k : Nat} (h : CRel W A B P a b i k wr) : CRel W A B P a b i k wr.drew := ⟨h.le, h.lk, h.below.drew, h.hA, h.hB, h.wP, h.hP, h.one, h.two, h.cell, h.free, h.good⟩
theorem CRel.drewN {W wr : World} {A B P : Nat} {a b : M4} {i k : Nat} (h : CRel W A B P a b i k wr) (n : Nat) : CRel W A B P a b i k (wr.drewN n) := ⟨h.le, h.lk, below_drewN h.below n, h.hA, h.hB, h.wP, h.hP, h.one, h.two, h.cell, h.free, h.good⟩
theorem CRel.sm {W wr w1 : World} {A B P : Nat} {a b : M4} {i k : Nat} (h : CRel W A B P a b i k wr) (hs : Sm P false wr w1) : CRel W A B P a b i k w1 :=
  have hz := h.below.size
  ⟨h.le, h.lk, hs.own h.below h.wP, h.hA, h.hB, h.wP, Nat.lt_of_lt_of_le h.hP hs.size, h.one.sm hs (by have := h.hA; omega) (by have := h.hA; have := h.wP; omega), h.two.sm hs (by have := h.hB; omega) (by have := h.hB; have := h.wP; omega), hs.cell, hs.free, h.good⟩
theorem CRel.step {W wr : World} {A B P : Nat} {a b : M4} {i k : Nat} (h : CRel W A B P a b i k wr) (hk : k < 4) (hg : i ≠ k → gpB a b i k = true) : CRel W A B P a b i (k + 1) wr :=
  ⟨h.le, hk, h.below, h.hA, h.hB, h.wP, h.hP, h.one, h.two, h.cell, h.free, fun p q hq hp hn hh => by
    rcases hh with h1 | ⟨rfl, h1⟩
    · exact h.good p q hq hp hn (Or.inl h1)
    · rcases Nat.lt_or_ge q k with h2 | h2
      · exact h.good p q hq hp hn (Or.inr ⟨rfl, h2⟩)
      · obtain rfl : q = k := by omega
        exact hg hn⟩
theorem CRel.row {W wr : World} {A B P : Nat} {a b : M4} {i : Nat} (h : CRel W A B P a b i 4 wr) (hi : i < 4) : CRel W A B P a b (i + 1) 0 wr :=
  ⟨hi, by omega, h.below, h.hA, h.hB, h.wP, h.hP, h.one, h.two, h.cell, h.free, fun p q hq hp hn hh => by
    rcases hh with h1 | ⟨_, h1⟩
    · rcases Nat.lt_or_ge p i with h2 | h2
      · exact h.good p q hq hp hn (Or.inl h2)
      · obtain rfl : p = i := by omega
        exact h.good p q hq hp hn (Or.inr ⟨rfl, hq⟩)
    · omega⟩
set_option maxRecDepth 100000 in
set_option maxHeartbeats 40000000 in
theorem crossed_any (a b : M4) (A B : Nat) (w : World) (hA : A < w.heap.size) (hB : B < w.heap.size) (HXa : BoxAt w A a.get 4) (HYb : BoxAt w B b.get 4) :
    Calls Tryd.prog 74 #[.slice (some ⟨A, 0, none⟩) 4 4, .slice (some ⟨B, 0, none⟩) 4 4] w (fun e w' => e = .returned (.bool (alB a b)) ∧ Below w.heap.size w w') := by
  have HX := Lib.hid HXa; have HY := Lib.hid HYb; clear HXa HYb
  obtain ⟨P, hP⟩ : ∃ P, P = w.heap.size := ⟨_, rfl⟩
  have HT0 : Hid (CRel w A B P a b 0 0 (w.alloc (.cells #[.bool false] 102))) := by
    show CRel _ _ _ _ _ _ _ _ _
    subst hP
    exact ⟨by omega, by omega, by (repeat' first | exact Below.refl _ _ | apply bl_alloc | apply bl_drewN | apply bl_drew | refine bl_trans ?_ (by assumption) | refine bl_set ?_ (by first | omega | (simp <;> omega)) _), hA, hB, Nat.le_refl _, by simp, HX.out.alloc hA _, HY.out.alloc hB _, by simp [go_sem], by simp [go_sem], fun p q _ _ _ hh => by omega⟩
  clear HX HY
  go_enter Tryd.func74, Tryd.ntmps74
  go_wp2
  rw [← hP]
  clear hP
  go_loopw [12] (fun v wr => CO w A B P a b v wr) (fun v _ => (4 - intOf v).toNat)
  case atStart => exact ⟨0, rfl, HT0.out⟩
  case round =>
    obtain ⟨i, rfl, hT⟩ := hrel
    clear HT0
    by_cases h4 : i < 4
    · have j0 : (0 : Int) ≤ (i : Int) := by omega
      have j1 : (i : Int) < 4 := by omega
      have HT := Lib.hid hT
      clear hT
      go_wp2
      go_loopw [17] (fun v wr => CI w A B P a b i v wr) (fun v _ => (4 - intOf v).toNat)
      case atStart => exact ⟨0, rfl, HT.out⟩
      case round =>
        obtain ⟨k, rfl, hT⟩ := hrel
        clear HT
        by_cases hk : k < 4
        · have i0 : (0 : Int) ≤ (k : Int) := by omega
          have i1 : (k : Int) < 4 := by omega
          have HT := Lib.hid hT
          clear hT
          by_cases hn : i = k
          · subst hn
            have b0 : wr.drew.cell? ⟨P, 0, none⟩ = some (.bool false) := HT.out.cell
            have HS := fun n => Lib.hid ((HT.out.drewN n).step hk (fun h => absurd rfl h))
            go_wp2
            have b1 : wr.cell? ⟨P, 0, none⟩ = some (.bool false) := HT.out.cell
            go_big_quiet (fail)
            go_wp2
            go_roundw
            case rel => exact ⟨i + 1, by go_num, (HS _).out⟩
            case measure => simp [intOf]; omega
          · have hnI : ((i : Int) != (k : Int)) = true := by simp only [bne_iff_ne, ne_eq]; omega
            by_cases hall : (fTimes (a.get i) (b.get k)).1.re = (fTimes (a.get k) (b.get i)).1.re ∧ (fTimes (a.get i) (b.get k)).1.im = (fTimes (a.get k) (b.get i)).1.im ∧ (fTimes (a.get i) (b.get k)).1.den = (fTimes (a.get k) (b.get i)).1.den
            case neg =>
              have hF : frB (fTimes (a.get i) (b.get k)).1 (fTimes (a.get k) (b.get i)).1 = false := by
                cases e : frB (fTimes (a.get i) (b.get k)).1 (fTimes (a.get k) (b.get i)).1
                · rfl
                · have e2 := frB_iff.1 e
                  exact absurd ⟨congrArg Fr.re e2, congrArg Fr.im e2, congrArg Fr.den e2⟩ hall
              have hEx : ∀ w, (Op.equalIn 10000 23 (.agg #[.int .i64 (fTimes (a.get i) (b.get k)).1.re, .int .i64 (fTimes (a.get i) (b.get k)).1.im, .int .i64 (fTimes (a.get i) (b.get k)).1.den]) (.agg #[.int .i64 (fTimes (a.get k) (b.get i)).1.re, .int .i64 (fTimes (a.get k) (b.get i)).1.im, .int .i64 (fTimes (a.get k) (b.get i)).1.den])).run Tryd.prog w = .ok false w := fun w => by have := eqFr_run (fTimes (a.get i) (b.get k)).1 (fTimes (a.get k) (b.get i)).1 9998 w; rw [hF] at this; exact this
              have HG := Lib.hid (alB_bad2 hn h4 hk (show gpB a b i k = false by unfold gpB frEq; simp only [Bool.and_eq_false_iff, decide_eq_false_iff_not]; by_cases x1 : (fTimes (a.get i) (b.get k)).1.re = (fTimes (a.get k) (b.get i)).1.re <;> by_cases x2 : (fTimes (a.get i) (b.get k)).1.im = (fTimes (a.get k) (b.get i)).1.im <;> by_cases x3 : (fTimes (a.get i) (b.get k)).1.den = (fTimes (a.get k) (b.get i)).1.den <;> simp_all))
              clear hall hF
              have hsc : wr.drew.cell? ⟨P, 0, none⟩ = some (.bool false) := HT.out.cell
              have hsf : wr.drew.frozen? ⟨P, 0, none⟩ = false := HT.out.free
              have hzA := HT.out.hA
              have hzB := HT.out.hB
              have hzP := HT.out.wP
              have hzQ := HT.out.hP
              have hzW := HT.out.below.size
              have HB := Lib.hid HT.out.below.drew
              have b0 : wr.drew.cell? ⟨A, i * 3, none⟩ = some (.int .i64 (a.get i).re) := (HT.out.one i (by omega)).1
              have b1 : wr.drew.cell? ⟨A, i * 3 + 1, none⟩ = some (.int .i64 (a.get i).im) := (HT.out.one i (by omega)).2.1
              have b2 : wr.drew.cell? ⟨A, i * 3 + 2, none⟩ = some (.int .i64 (a.get i).den) := (HT.out.one i (by omega)).2.2
              have b3 : wr.drew.cell? ⟨B, k * 3, none⟩ = some (.int .i64 (b.get k).re) := (HT.out.two k (by omega)).1
              have b4 : wr.drew.cell? ⟨B, k * 3 + 1, none⟩ = some (.int .i64 (b.get k).im) := (HT.out.two k (by omega)).2.1
              have b5 : wr.drew.cell? ⟨B, k * 3 + 2, none⟩ = some (.int .i64 (b.get k).den) := (HT.out.two k (by omega)).2.2
              have b6 : wr.drew.cell? ⟨A, k * 3, none⟩ = some (.int .i64 (a.get k).re) := (HT.out.one k (by omega)).1
              have b7 : wr.drew.cell? ⟨A, k * 3 + 1, none⟩ = some (.int .i64 (a.get k).im) := (HT.out.one k (by omega)).2.1
              have b8 : wr.drew.cell? ⟨A, k * 3 + 2, none⟩ = some (.int .i64 (a.get k).den) := (HT.out.one k (by omega)).2.2
              have b9 : wr.drew.cell? ⟨B, i * 3, none⟩ = some (.int .i64 (b.get i).re) := (HT.out.two i (by omega)).1
              have b10 : wr.drew.cell? ⟨B, i * 3 + 1, none⟩ = some (.int .i64 (b.get i).im) := (HT.out.two i (by omega)).2.1
              have b11 : wr.drew.cell? ⟨B, i * 3 + 2, none⟩ = some (.int .i64 (b.get i).den) := (HT.out.two i (by omega)).2.2
              go_wp2
              refine wp_region_held_drew (S := (fun w' => w'.cell? ⟨A, i * 3, none⟩ = some (.int .i64 (a.get i).re) ∧ w'.cell? ⟨A, i * 3 + 1, none⟩ = some (.int .i64 (a.get i).im) ∧ w'.cell? ⟨A, i * 3 + 2, none⟩ = some (.int .i64 (a.get i).den) ∧ w'.cell? ⟨B, k * 3, none⟩ = some (.int .i64 (b.get k).re) ∧ w'.cell? ⟨B, k * 3 + 1, none⟩ = some (.int .i64 (b.get k).im) ∧ w'.cell? ⟨B, k * 3 + 2, none⟩ = some (.int .i64 (b.get k).den) ∧ w'.cell? ⟨A, k * 3, none⟩ = some (.int .i64 (a.get k).re) ∧ w'.cell? ⟨A, k * 3 + 1, none⟩ = some (.int .i64 (a.get k).im) ∧ w'.cell? ⟨A, k * 3 + 2, none⟩ = some (.int .i64 (a.get k).den) ∧ w'.cell? ⟨B, i * 3, none⟩ = some (.int .i64 (b.get i).re) ∧ w'.cell? ⟨B, i * 3 + 1, none⟩ = some (.int .i64 (b.get i).im) ∧ w'.cell? ⟨B, i * 3 + 2, none⟩ = some (.int .i64 (b.get i).den))) (by kernel_rfl) ⟨b0, b1, b2, b3, b4, b5, b6, b7, b8, b9, b10, b11⟩ (fun hHeld => ?_)
              refine wpAnyH_take (i := 0) (v := ?_) rfl (by kernel_rfl) (by kernel_rfl) (by kernel_rfl) (fun _ _ _ h => h) (Or.inl ⟨by rfl, ?_⟩) (by assumption) ?_
              rotate_left
              (focus (intro w hSw; (try dsimp only at hSw); go_simp; (try with_reducible rfl)))
              (try simp only [Act.put, List.getElem_toArray, List.getElem_cons_zero, List.setIfInBounds_toArray, List.set_cons_zero, List.set_cons_succ])
              refine wpAnyH_take (i := 1) (v := ?_) rfl (by kernel_rfl) (by kernel_rfl) (by kernel_rfl) (fun _ _ _ h => h) (Or.inl ⟨by rfl, ?_⟩) (by assumption) ?_
              rotate_left
              (focus (intro w hSw; (try dsimp only at hSw); go_simp; (try with_reducible rfl)))
              (try simp only [Act.put, List.getElem_toArray, List.getElem_cons_succ, List.getElem_cons_zero, List.setIfInBounds_toArray, List.set_cons_zero, List.set_cons_succ])
              refine wpAnyH_take (i := 2) (v := ?_) rfl (by kernel_rfl) (by kernel_rfl) (by kernel_rfl) (fun _ _ _ h => h) (Or.inl ⟨by rfl, ?_⟩) (by assumption) ?_
              rotate_left
              (focus (intro w hSw; (try dsimp only at hSw); go_simp; (try with_reducible rfl)))
              (try simp only [Act.put, List.getElem_toArray, List.getElem_cons_succ, List.getElem_cons_zero, List.setIfInBounds_toArray, List.set_cons_zero, List.set_cons_succ])
              refine wpAnyH_take (i := 3) (v := ?_) rfl (by kernel_rfl) (by kernel_rfl) (by kernel_rfl) (fun _ _ _ h => h) (Or.inl ⟨by rfl, ?_⟩) (by assumption) ?_
              rotate_left
              (focus (intro w hSw; (try dsimp only at hSw); go_simp; (try with_reducible rfl)))
              (try simp only [Act.put, List.getElem_toArray, List.getElem_cons_succ, List.getElem_cons_zero, List.setIfInBounds_toArray, List.set_cons_zero, List.set_cons_succ])
              refine wpAnyH_take (i := 4) (v := ?_) rfl (by kernel_rfl) (by kernel_rfl) (by kernel_rfl) (fun _ _ _ h => h) (Or.inl ⟨by rfl, ?_⟩) (by assumption) ?_
              rotate_left
              (focus (intro w hSw; (try dsimp only at hSw); go_simp; (try with_reducible rfl)))
              (try simp only [Act.put, List.getElem_toArray, List.getElem_cons_succ, List.getElem_cons_zero, List.setIfInBounds_toArray, List.set_cons_zero, List.set_cons_succ])
              refine wpAnyH_take (i := 5) (v := ?_) rfl (by kernel_rfl) (by kernel_rfl) (by kernel_rfl) (fun _ _ _ h => h) (Or.inl ⟨by rfl, ?_⟩) (by assumption) ?_
              rotate_left
              (focus (intro w hSw; (try dsimp only at hSw); go_simp; (try with_reducible rfl)))
              (try simp only [Act.put, List.getElem_toArray, List.getElem_cons_succ, List.getElem_cons_zero, List.setIfInBounds_toArray, List.set_cons_zero, List.set_cons_succ])
              refine wpAnyH_take (i := 6) (v := ?_) rfl (by kernel_rfl) (by kernel_rfl) (by kernel_rfl) (fun _ _ _ h => h) (Or.inl ⟨by rfl, ?_⟩) (by assumption) ?_
              rotate_left
              (focus (intro w hSw; (try dsimp only at hSw); go_simp; (try with_reducible rfl)))
              (try simp only [Act.put, List.getElem_toArray, List.getElem_cons_succ, List.getElem_cons_zero, List.setIfInBounds_toArray, List.set_cons_zero, List.set_cons_succ])
              refine wpAnyH_take (i := 7) (v := ?_) rfl (by kernel_rfl) (by kernel_rfl) (by kernel_rfl) (fun _ _ _ h => h) (Or.inl ⟨by rfl, ?_⟩) (by assumption) ?_
              rotate_left
              (focus (intro w hSw; (try dsimp only at hSw); go_simp; (try with_reducible rfl)))
              (try simp only [Act.put, List.getElem_toArray, List.getElem_cons_succ, List.getElem_cons_zero, List.setIfInBounds_toArray, List.set_cons_zero, List.set_cons_succ])
              refine wpAnyH_take (i := 8) (v := ?_) rfl (by kernel_rfl) (by kernel_rfl) (by kernel_rfl) (fun _ _ _ h => h) (Or.inl ⟨by rfl, ?_⟩) (by assumption) ?_
              rotate_left
              (focus (intro w hSw; (try dsimp only at hSw); go_simp; (try with_reducible rfl)))
              (try simp only [Act.put, List.getElem_toArray, List.getElem_cons_succ, List.getElem_cons_zero, List.setIfInBounds_toArray, List.set_cons_zero, List.set_cons_succ])
              refine wpAnyH_take (i := 9) (v := ?_) rfl (by kernel_rfl) (by kernel_rfl) (by kernel_rfl) (fun _ _ _ h => h) (Or.inl ⟨by rfl, ?_⟩) (by assumption) ?_
              rotate_left
              (focus (intro w hSw; (try dsimp only at hSw); go_simp; (try with_reducible rfl)))
              (try simp only [Act.put, List.getElem_toArray, List.getElem_cons_succ, List.getElem_cons_zero, List.setIfInBounds_toArray, List.set_cons_zero, List.set_cons_succ])
              refine wpAnyH_take (i := 10) (v := ?_) rfl (by kernel_rfl) (by kernel_rfl) (by kernel_rfl) (fun _ _ _ h => h) (Or.inl ⟨by rfl, ?_⟩) (by assumption) ?_
              rotate_left
              (focus (intro w hSw; (try dsimp only at hSw); go_simp; (try with_reducible rfl)))
              (try simp only [Act.put, List.getElem_toArray, List.getElem_cons_succ, List.getElem_cons_zero, List.setIfInBounds_toArray, List.set_cons_zero, List.set_cons_succ])
              refine wpAnyH_take (i := 11) (v := ?_) rfl (by kernel_rfl) (by kernel_rfl) (by kernel_rfl) (fun _ _ _ h => h) (Or.inl ⟨by rfl, ?_⟩) (by assumption) ?_
              rotate_left
              (focus (intro w hSw; (try dsimp only at hSw); go_simp; (try with_reducible rfl)))
              (try simp only [Act.put, List.getElem_toArray, List.getElem_cons_succ, List.getElem_cons_zero, List.setIfInBounds_toArray, List.set_cons_zero, List.set_cons_succ])
              refine wpAnyH_take (i := 12) (v := ?_) rfl (by kernel_rfl) (by kernel_rfl) (by kernel_rfl) (fun _ _ _ h => h) (Or.inl ⟨by rfl, ?_⟩) (by assumption) ?_
              rotate_left
              (focus (intro w hSw; (try dsimp only at hSw); go_simp; (try with_reducible rfl)))
              (try simp only [Act.put, List.getElem_toArray, List.getElem_cons_succ, List.getElem_cons_zero, List.setIfInBounds_toArray, List.set_cons_zero, List.set_cons_succ])
              refine wpAnyH_take (i := 14) (v := ?_) rfl (by kernel_rfl) (by kernel_rfl) (by kernel_rfl) (fun _ _ _ h => h) (Or.inl ⟨by rfl, ?_⟩) (by assumption) ?_
              rotate_left
              (focus (intro w hSw; (try dsimp only at hSw); go_simp; (try with_reducible rfl)))
              (try simp only [Act.put, List.getElem_toArray, List.getElem_cons_succ, List.getElem_cons_zero, List.setIfInBounds_toArray, List.set_cons_zero, List.set_cons_succ])
              refine wpAnyH_take (i := 15) (v := ?_) rfl (by kernel_rfl) (by kernel_rfl) (by kernel_rfl) (fun _ _ _ h => h) (Or.inl ⟨by rfl, ?_⟩) (by assumption) ?_
              rotate_left
              (focus (intro w hSw; (try dsimp only at hSw); go_simp; (try with_reducible rfl)))
              (try simp only [Act.put, List.getElem_toArray, List.getElem_cons_succ, List.getElem_cons_zero, List.setIfInBounds_toArray, List.set_cons_zero, List.set_cons_succ])
              refine wpAnyH_take (i := 16) (v := ?_) rfl (by kernel_rfl) (by kernel_rfl) (by kernel_rfl) (fun _ _ _ h => h) (Or.inl ⟨by rfl, ?_⟩) (by assumption) ?_
              rotate_left
              (focus (intro w hSw; (try dsimp only at hSw); go_simp; (try with_reducible rfl)))
              (try simp only [Act.put, List.getElem_toArray, List.getElem_cons_succ, List.getElem_cons_zero, List.setIfInBounds_toArray, List.set_cons_zero, List.set_cons_succ])
              refine wpAnyH_take (i := 17) (v := ?_) rfl (by kernel_rfl) (by kernel_rfl) (by kernel_rfl) (fun _ _ _ h => h) (Or.inl ⟨by rfl, ?_⟩) (by assumption) ?_
              rotate_left
              (focus (intro w hSw; (try dsimp only at hSw); go_simp; (try with_reducible rfl)))
              (try simp only [Act.put, List.getElem_toArray, List.getElem_cons_succ, List.getElem_cons_zero, List.setIfInBounds_toArray, List.set_cons_zero, List.set_cons_succ])
              refine wpAnyH_take (i := 18) (v := ?_) rfl (by kernel_rfl) (by kernel_rfl) (by kernel_rfl) (fun _ _ _ h => h) (Or.inl ⟨by rfl, ?_⟩) (by assumption) ?_
              rotate_left
              (focus (intro w hSw; (try dsimp only at hSw); go_simp; (try with_reducible rfl)))
              (try simp only [Act.put, List.getElem_toArray, List.getElem_cons_succ, List.getElem_cons_zero, List.setIfInBounds_toArray, List.set_cons_zero, List.set_cons_succ])
              refine wpAnyH_take (i := 19) (v := ?_) rfl (by kernel_rfl) (by kernel_rfl) (by kernel_rfl) (fun _ _ _ h => h) (Or.inl ⟨by rfl, ?_⟩) (by assumption) ?_
              rotate_left
              (focus (intro w hSw; (try dsimp only at hSw); go_simp; (try with_reducible rfl)))
              (try simp only [Act.put, List.getElem_toArray, List.getElem_cons_succ, List.getElem_cons_zero, List.setIfInBounds_toArray, List.set_cons_zero, List.set_cons_succ])
              refine wpAnyH_take (i := 20) (v := ?_) rfl (by kernel_rfl) (by kernel_rfl) (by kernel_rfl) (fun _ _ _ h => h) (Or.inl ⟨by rfl, ?_⟩) (by assumption) ?_
              rotate_left
              (focus (intro w hSw; (try dsimp only at hSw); go_simp; (try with_reducible rfl)))
              (try simp only [Act.put, List.getElem_toArray, List.getElem_cons_succ, List.getElem_cons_zero, List.setIfInBounds_toArray, List.set_cons_zero, List.set_cons_succ])
              refine wpAnyH_take (i := 21) (v := ?_) rfl (by kernel_rfl) (by kernel_rfl) (by kernel_rfl) (fun _ _ _ h => h) (Or.inl ⟨by rfl, ?_⟩) (by assumption) ?_
              rotate_left
              (focus (intro w hSw; (try dsimp only at hSw); go_simp; (try with_reducible rfl)))
              (try simp only [Act.put, List.getElem_toArray, List.getElem_cons_succ, List.getElem_cons_zero, List.setIfInBounds_toArray, List.set_cons_zero, List.set_cons_succ])
              refine wpAnyH_take (i := 22) (v := ?_) rfl (by kernel_rfl) (by kernel_rfl) (by kernel_rfl) (fun _ _ _ h => h) (Or.inl ⟨by rfl, ?_⟩) (by assumption) ?_
              rotate_left
              (focus (intro w hSw; (try dsimp only at hSw); go_simp; (try with_reducible rfl)))
              (try simp only [Act.put, List.getElem_toArray, List.getElem_cons_succ, List.getElem_cons_zero, List.setIfInBounds_toArray, List.set_cons_zero, List.set_cons_succ])
              refine wpAnyH_ready (rs := [13]) (by kernel_rfl) (by simp) ?_
              refine AllReadyH.cons rfl (fun K hK => ?_) AllReadyH.nil
              go_simp
              (go_at_call 80; (with_reducible refine (stimes_any P _ (a.get i) (b.get k) _ (by first | omega | (simp <;> omega)) hsc hsf).mono ?_); rintro e w5 ho; obtain ⟨rfl, hs⟩ := ho.fn; have q0 : w5.cell? ⟨A, i * 3, none⟩ = some (.int .i64 (a.get i).re) := (hs.atc A (by first | omega | (simp <;> omega)) (by omega) _).trans b0; have q1 : w5.cell? ⟨A, i * 3 + 1, none⟩ = some (.int .i64 (a.get i).im) := (hs.atc A (by first | omega | (simp <;> omega)) (by omega) _).trans b1; have q2 : w5.cell? ⟨A, i * 3 + 2, none⟩ = some (.int .i64 (a.get i).den) := (hs.atc A (by first | omega | (simp <;> omega)) (by omega) _).trans b2; have q3 : w5.cell? ⟨B, k * 3, none⟩ = some (.int .i64 (b.get k).re) := (hs.atc B (by first | omega | (simp <;> omega)) (by omega) _).trans b3; have q4 : w5.cell? ⟨B, k * 3 + 1, none⟩ = some (.int .i64 (b.get k).im) := (hs.atc B (by first | omega | (simp <;> omega)) (by omega) _).trans b4; have q5 : w5.cell? ⟨B, k * 3 + 2, none⟩ = some (.int .i64 (b.get k).den) := (hs.atc B (by first | omega | (simp <;> omega)) (by omega) _).trans b5; have q6 : w5.cell? ⟨A, k * 3, none⟩ = some (.int .i64 (a.get k).re) := (hs.atc A (by first | omega | (simp <;> omega)) (by omega) _).trans b6; have q7 : w5.cell? ⟨A, k * 3 + 1, none⟩ = some (.int .i64 (a.get k).im) := (hs.atc A (by first | omega | (simp <;> omega)) (by omega) _).trans b7; have q8 : w5.cell? ⟨A, k * 3 + 2, none⟩ = some (.int .i64 (a.get k).den) := (hs.atc A (by first | omega | (simp <;> omega)) (by omega) _).trans b8; have q9 : w5.cell? ⟨B, i * 3, none⟩ = some (.int .i64 (b.get i).re) := (hs.atc B (by first | omega | (simp <;> omega)) (by omega) _).trans b9; have q10 : w5.cell? ⟨B, i * 3 + 1, none⟩ = some (.int .i64 (b.get i).im) := (hs.atc B (by first | omega | (simp <;> omega)) (by omega) _).trans b10; have q11 : w5.cell? ⟨B, i * 3 + 2, none⟩ = some (.int .i64 (b.get i).den) := (hs.atc B (by first | omega | (simp <;> omega)) (by omega) _).trans b11; have hsc := hs.cell; have hsf := hs.free; have hzw5 : P < w5.heap.size := Nat.lt_of_lt_of_le (by first | omega | (simp <;> omega)) hs.size; have HB := Lib.hid (show Below w.heap.size w w5 from hs.own HB.out (by omega)); clear ho hs)
              skip
              refine hK.out _ _ ((show (_ ∧ _) from ⟨q0, q1, q2, q3, q4, q5, q6, q7, q8, q9, q10, q11⟩)) (fun hHeld => ?_)
              clear hK K
              (try simp only [Act.put, List.getElem_toArray, List.getElem_cons_succ, List.getElem_cons_zero, List.setIfInBounds_toArray, List.set_cons_zero, List.set_cons_succ])
              refine wpAnyH_ready (rs := [23]) (by kernel_rfl) (by simp) ?_
              refine AllReadyH.cons rfl (fun K hK => ?_) AllReadyH.nil
              go_simp
              (go_at_call 80; (with_reducible refine (stimes_any P _ (a.get k) (b.get i) _ (by first | omega | (simp <;> omega)) hsc hsf).mono ?_); rintro e w6 ho; obtain ⟨rfl, hs⟩ := ho.fn; have r0 : w6.cell? ⟨A, i * 3, none⟩ = some (.int .i64 (a.get i).re) := (hs.atc A (by first | omega | (simp <;> omega)) (by omega) _).trans q0; have r1 : w6.cell? ⟨A, i * 3 + 1, none⟩ = some (.int .i64 (a.get i).im) := (hs.atc A (by first | omega | (simp <;> omega)) (by omega) _).trans q1; have r2 : w6.cell? ⟨A, i * 3 + 2, none⟩ = some (.int .i64 (a.get i).den) := (hs.atc A (by first | omega | (simp <;> omega)) (by omega) _).trans q2; have r3 : w6.cell? ⟨B, k * 3, none⟩ = some (.int .i64 (b.get k).re) := (hs.atc B (by first | omega | (simp <;> omega)) (by omega) _).trans q3; have r4 : w6.cell? ⟨B, k * 3 + 1, none⟩ = some (.int .i64 (b.get k).im) := (hs.atc B (by first | omega | (simp <;> omega)) (by omega) _).trans q4; have r5 : w6.cell? ⟨B, k * 3 + 2, none⟩ = some (.int .i64 (b.get k).den) := (hs.atc B (by first | omega | (simp <;> omega)) (by omega) _).trans q5; have r6 : w6.cell? ⟨A, k * 3, none⟩ = some (.int .i64 (a.get k).re) := (hs.atc A (by first | omega | (simp <;> omega)) (by omega) _).trans q6; have r7 : w6.cell? ⟨A, k * 3 + 1, none⟩ = some (.int .i64 (a.get k).im) := (hs.atc A (by first | omega | (simp <;> omega)) (by omega) _).trans q7; have r8 : w6.cell? ⟨A, k * 3 + 2, none⟩ = some (.int .i64 (a.get k).den) := (hs.atc A (by first | omega | (simp <;> omega)) (by omega) _).trans q8; have r9 : w6.cell? ⟨B, i * 3, none⟩ = some (.int .i64 (b.get i).re) := (hs.atc B (by first | omega | (simp <;> omega)) (by omega) _).trans q9; have r10 : w6.cell? ⟨B, i * 3 + 1, none⟩ = some (.int .i64 (b.get i).im) := (hs.atc B (by first | omega | (simp <;> omega)) (by omega) _).trans q10; have r11 : w6.cell? ⟨B, i * 3 + 2, none⟩ = some (.int .i64 (b.get i).den) := (hs.atc B (by first | omega | (simp <;> omega)) (by omega) _).trans q11; have hsc := hs.cell; have hsf := hs.free; have hzw6 : P < w6.heap.size := Nat.lt_of_lt_of_le (by first | omega | (simp <;> omega)) hs.size; have HB := Lib.hid (show Below w.heap.size w w6 from hs.own HB.out (by omega)); clear ho hs)
              skip
              refine hK.out _ _ ((show (_ ∧ _) from ⟨r0, r1, r2, r3, r4, r5, r6, r7, r8, r9, r10, r11⟩)) (fun hHeld => ?_)
              clear hK K
              (try simp only [Act.put, List.getElem_toArray, List.getElem_cons_succ, List.getElem_cons_zero, List.setIfInBounds_toArray, List.set_cons_zero, List.set_cons_succ])
              refine wpAnyH_take (i := 24) (v := ?_) rfl (by kernel_rfl) (by kernel_rfl) (by kernel_rfl) (fun _ _ _ h => h) (Or.inl ⟨by rfl, ?_⟩) (by assumption) ?_
              rotate_left
              (focus (intro w hSw; (try dsimp only at hSw); go_simp; (try with_reducible rfl)))
              (try simp only [Act.put, List.getElem_toArray, List.getElem_cons_succ, List.getElem_cons_zero, List.setIfInBounds_toArray, List.set_cons_zero, List.set_cons_succ])
              refine wpAnyH_take (i := 25) (v := ?_) rfl (by kernel_rfl) (by kernel_rfl) (by kernel_rfl) (fun _ _ _ h => h) (Or.inl ⟨by rfl, ?_⟩) (by assumption) ?_
              rotate_left
              (focus (intro w hSw; (try dsimp only at hSw); go_simp; (try with_reducible rfl)))
              (try simp only [Act.put, List.getElem_toArray, List.getElem_cons_succ, List.getElem_cons_zero, List.setIfInBounds_toArray, List.set_cons_zero, List.set_cons_succ])
              refine wpAnyH_take (i := 26) (v := ?_) rfl (by kernel_rfl) (by kernel_rfl) (by kernel_rfl) (fun _ _ _ h => h) (Or.inl ⟨by rfl, ?_⟩) (by assumption) ?_
              rotate_left
              (focus (intro w hSw; (try dsimp only at hSw); go_simp; (try with_reducible rfl)))
              (try simp only [Act.put, List.getElem_toArray, List.getElem_cons_succ, List.getElem_cons_zero, List.setIfInBounds_toArray, List.set_cons_zero, List.set_cons_succ])
              refine wpAnyH_take (i := 27) rfl (by kernel_rfl) (by kernel_rfl) (by kernel_rfl) (fun _ _ _ h => h) (Or.inr ⟨by rfl, rfl⟩) (by assumption) ?_
              (try simp only [Act.put, List.getElem_toArray, List.getElem_cons_succ, List.getElem_cons_zero, List.setIfInBounds_toArray, List.set_cons_zero, List.set_cons_succ])
              refine wpAnyH_take (i := 28) rfl (by kernel_rfl) (by kernel_rfl) (by kernel_rfl) (fun _ _ _ h => h) (Or.inr ⟨by rfl, rfl⟩) (by assumption) ?_
              (try simp only [Act.put, List.getElem_toArray, List.getElem_cons_succ, List.getElem_cons_zero, List.setIfInBounds_toArray, List.set_cons_zero, List.set_cons_succ])
              refine wpAnyH_take (i := 29) rfl (by kernel_rfl) (by kernel_rfl) (by kernel_rfl) (fun _ _ _ h => h) (Or.inr ⟨by rfl, rfl⟩) (by assumption) ?_
              (try simp only [Act.put, List.getElem_toArray, List.getElem_cons_succ, List.getElem_cons_zero, List.setIfInBounds_toArray, List.set_cons_zero, List.set_cons_succ])
              refine wpAnyH_take (i := 30) rfl (by kernel_rfl) (by kernel_rfl) (by kernel_rfl) (fun _ _ _ h => h) (Or.inr ⟨by rfl, rfl⟩) (by assumption) ?_
              (try simp only [Act.put, List.getElem_toArray, List.getElem_cons_succ, List.getElem_cons_zero, List.setIfInBounds_toArray, List.set_cons_zero, List.set_cons_succ])
              refine wpAnyH_take (i := 31) (v := ?_) rfl (by kernel_rfl) (by kernel_rfl) (by kernel_rfl) (fun _ _ _ h => h) (Or.inl ⟨by rfl, ?_⟩) (by assumption) ?_
              rotate_left
              (focus (intro w hSw; (try dsimp only at hSw); go_simp; (try with_reducible rfl)))
              (try simp only [Act.put, List.getElem_toArray, List.getElem_cons_succ, List.getElem_cons_zero, List.setIfInBounds_toArray, List.set_cons_zero, List.set_cons_succ])
              refine wpAnyH_done (by kernel_rfl) ?_ _
              clear hHeld
              go_wp2
              go_ret
              exact ⟨by rw [HG.out]; rfl, HB.out⟩
            obtain ⟨e1, e2, e3⟩ := hall
            cases c1 : (fTimes (a.get i) (b.get k)).2
            · have c2 : (fTimes (a.get k) (b.get i)).2 = false := by
                cases c2 : (fTimes (a.get k) (b.get i)).2
                · rfl
                · have n1 := fTimes_no _ _ c1
                  have v1 := vld_den (fTimes_vld c2).2.2
                  rw [n1] at e3
                  exact absurd (show (fTimes (a.get k) (b.get i)).1.den = 0 from e3.symm) (by omega)
              have HG := Lib.hid (alB_bad2 hn h4 hk (show gpB a b i k = false by unfold gpB; rw [c1]; rfl))
              have hF : frB (fTimes (a.get i) (b.get k)).1 (fTimes (a.get k) (b.get i)).1 = true := by unfold frB; rw [e1, e2, e3]; simp
              have hEx : ∀ w, (Op.equalIn 10000 23 (.agg #[.int .i64 (fTimes (a.get i) (b.get k)).1.re, .int .i64 (fTimes (a.get i) (b.get k)).1.im, .int .i64 (fTimes (a.get i) (b.get k)).1.den]) (.agg #[.int .i64 (fTimes (a.get k) (b.get i)).1.re, .int .i64 (fTimes (a.get k) (b.get i)).1.im, .int .i64 (fTimes (a.get k) (b.get i)).1.den])).run Tryd.prog w = .ok true w := fun w => by have := eqFr_run (fTimes (a.get i) (b.get k)).1 (fTimes (a.get k) (b.get i)).1 9998 w; rw [hF] at this; exact this
              clear e1 e2 e3
              have hsc : wr.drew.cell? ⟨P, 0, none⟩ = some (.bool false) := HT.out.cell
              have hsf : wr.drew.frozen? ⟨P, 0, none⟩ = false := HT.out.free
              have hzA := HT.out.hA
              have hzB := HT.out.hB
              have hzP := HT.out.wP
              have hzQ := HT.out.hP
              have hzW := HT.out.below.size
              have HB := Lib.hid HT.out.below.drew
              have b0 : wr.drew.cell? ⟨A, i * 3, none⟩ = some (.int .i64 (a.get i).re) := (HT.out.one i (by omega)).1
              have b1 : wr.drew.cell? ⟨A, i * 3 + 1, none⟩ = some (.int .i64 (a.get i).im) := (HT.out.one i (by omega)).2.1
              have b2 : wr.drew.cell? ⟨A, i * 3 + 2, none⟩ = some (.int .i64 (a.get i).den) := (HT.out.one i (by omega)).2.2
              have b3 : wr.drew.cell? ⟨B, k * 3, none⟩ = some (.int .i64 (b.get k).re) := (HT.out.two k (by omega)).1
              have b4 : wr.drew.cell? ⟨B, k * 3 + 1, none⟩ = some (.int .i64 (b.get k).im) := (HT.out.two k (by omega)).2.1
              have b5 : wr.drew.cell? ⟨B, k * 3 + 2, none⟩ = some (.int .i64 (b.get k).den) := (HT.out.two k (by omega)).2.2
              have b6 : wr.drew.cell? ⟨A, k * 3, none⟩ = some (.int .i64 (a.get k).re) := (HT.out.one k (by omega)).1
              have b7 : wr.drew.cell? ⟨A, k * 3 + 1, none⟩ = some (.int .i64 (a.get k).im) := (HT.out.one k (by omega)).2.1
              have b8 : wr.drew.cell? ⟨A, k * 3 + 2, none⟩ = some (.int .i64 (a.get k).den) := (HT.out.one k (by omega)).2.2
              have b9 : wr.drew.cell? ⟨B, i * 3, none⟩ = some (.int .i64 (b.get i).re) := (HT.out.two i (by omega)).1
              have b10 : wr.drew.cell? ⟨B, i * 3 + 1, none⟩ = some (.int .i64 (b.get i).im) := (HT.out.two i (by omega)).2.1
              have b11 : wr.drew.cell? ⟨B, i * 3 + 2, none⟩ = some (.int .i64 (b.get i).den) := (HT.out.two i (by omega)).2.2
              go_wp2
              refine wp_region_held_drew (S := (fun w' => w'.cell? ⟨A, i * 3, none⟩ = some (.int .i64 (a.get i).re) ∧ w'.cell? ⟨A, i * 3 + 1, none⟩ = some (.int .i64 (a.get i).im) ∧ w'.cell? ⟨A, i * 3 + 2, none⟩ = some (.int .i64 (a.get i).den) ∧ w'.cell? ⟨B, k * 3, none⟩ = some (.int .i64 (b.get k).re) ∧ w'.cell? ⟨B, k * 3 + 1, none⟩ = some (.int .i64 (b.get k).im) ∧ w'.cell? ⟨B, k * 3 + 2, none⟩ = some (.int .i64 (b.get k).den) ∧ w'.cell? ⟨A, k * 3, none⟩ = some (.int .i64 (a.get k).re) ∧ w'.cell? ⟨A, k * 3 + 1, none⟩ = some (.int .i64 (a.get k).im) ∧ w'.cell? ⟨A, k * 3 + 2, none⟩ = some (.int .i64 (a.get k).den) ∧ w'.cell? ⟨B, i * 3, none⟩ = some (.int .i64 (b.get i).re) ∧ w'.cell? ⟨B, i * 3 + 1, none⟩ = some (.int .i64 (b.get i).im) ∧ w'.cell? ⟨B, i * 3 + 2, none⟩ = some (.int .i64 (b.get i).den))) (by kernel_rfl) ⟨b0, b1, b2, b3, b4, b5, b6, b7, b8, b9, b10, b11⟩ (fun hHeld => ?_)
              refine wpAnyH_take (i := 0) (v := ?_) rfl (by kernel_rfl) (by kernel_rfl) (by kernel_rfl) (fun _ _ _ h => h) (Or.inl ⟨by rfl, ?_⟩) (by assumption) ?_
              rotate_left
              (focus (intro w hSw; (try dsimp only at hSw); go_simp; (try with_reducible rfl)))
              (try simp only [Act.put, List.getElem_toArray, List.getElem_cons_zero, List.setIfInBounds_toArray, List.set_cons_zero, List.set_cons_succ])
              refine wpAnyH_take (i := 1) (v := ?_) rfl (by kernel_rfl) (by kernel_rfl) (by kernel_rfl) (fun _ _ _ h => h) (Or.inl ⟨by rfl, ?_⟩) (by assumption) ?_
              rotate_left
              (focus (intro w hSw; (try dsimp only at hSw); go_simp; (try with_reducible rfl)))
              (try simp only [Act.put, List.getElem_toArray, List.getElem_cons_succ, List.getElem_cons_zero, List.setIfInBounds_toArray, List.set_cons_zero, List.set_cons_succ])
              refine wpAnyH_take (i := 2) (v := ?_) rfl (by kernel_rfl) (by kernel_rfl) (by kernel_rfl) (fun _ _ _ h => h) (Or.inl ⟨by rfl, ?_⟩) (by assumption) ?_
              rotate_left
              (focus (intro w hSw; (try dsimp only at hSw); go_simp; (try with_reducible rfl)))
              (try simp only [Act.put, List.getElem_toArray, List.getElem_cons_succ, List.getElem_cons_zero, List.setIfInBounds_toArray, List.set_cons_zero, List.set_cons_succ])
              refine wpAnyH_take (i := 3) (v := ?_) rfl (by kernel_rfl) (by kernel_rfl) (by kernel_rfl) (fun _ _ _ h => h) (Or.inl ⟨by rfl, ?_⟩) (by assumption) ?_
              rotate_left
              (focus (intro w hSw; (try dsimp only at hSw); go_simp; (try with_reducible rfl)))
              (try simp only [Act.put, List.getElem_toArray, List.getElem_cons_succ, List.getElem_cons_zero, List.setIfInBounds_toArray, List.set_cons_zero, List.set_cons_succ])
              refine wpAnyH_take (i := 4) (v := ?_) rfl (by kernel_rfl) (by kernel_rfl) (by kernel_rfl) (fun _ _ _ h => h) (Or.inl ⟨by rfl, ?_⟩) (by assumption) ?_
              rotate_left
              (focus (intro w hSw; (try dsimp only at hSw); go_simp; (try with_reducible rfl)))
              (try simp only [Act.put, List.getElem_toArray, List.getElem_cons_succ, List.getElem_cons_zero, List.setIfInBounds_toArray, List.set_cons_zero, List.set_cons_succ])
              refine wpAnyH_take (i := 5) (v := ?_) rfl (by kernel_rfl) (by kernel_rfl) (by kernel_rfl) (fun _ _ _ h => h) (Or.inl ⟨by rfl, ?_⟩) (by assumption) ?_
              rotate_left
              (focus (intro w hSw; (try dsimp only at hSw); go_simp; (try with_reducible rfl)))
              (try simp only [Act.put, List.getElem_toArray, List.getElem_cons_succ, List.getElem_cons_zero, List.setIfInBounds_toArray, List.set_cons_zero, List.set_cons_succ])
              refine wpAnyH_take (i := 6) (v := ?_) rfl (by kernel_rfl) (by kernel_rfl) (by kernel_rfl) (fun _ _ _ h => h) (Or.inl ⟨by rfl, ?_⟩) (by assumption) ?_
              rotate_left
              (focus (intro w hSw; (try dsimp only at hSw); go_simp; (try with_reducible rfl)))
              (try simp only [Act.put, List.getElem_toArray, List.getElem_cons_succ, List.getElem_cons_zero, List.setIfInBounds_toArray, List.set_cons_zero, List.set_cons_succ])
              refine wpAnyH_take (i := 7) (v := ?_) rfl (by kernel_rfl) (by kernel_rfl) (by kernel_rfl) (fun _ _ _ h => h) (Or.inl ⟨by rfl, ?_⟩) (by assumption) ?_
              rotate_left
              (focus (intro w hSw; (try dsimp only at hSw); go_simp; (try with_reducible rfl)))
              (try simp only [Act.put, List.getElem_toArray, List.getElem_cons_succ, List.getElem_cons_zero, List.setIfInBounds_toArray, List.set_cons_zero, List.set_cons_succ])
              refine wpAnyH_take (i := 8) (v := ?_) rfl (by kernel_rfl) (by kernel_rfl) (by kernel_rfl) (fun _ _ _ h => h) (Or.inl ⟨by rfl, ?_⟩) (by assumption) ?_
              rotate_left
              (focus (intro w hSw; (try dsimp only at hSw); go_simp; (try with_reducible rfl)))
              (try simp only [Act.put, List.getElem_toArray, List.getElem_cons_succ, List.getElem_cons_zero, List.setIfInBounds_toArray, List.set_cons_zero, List.set_cons_succ])
              refine wpAnyH_take (i := 9) (v := ?_) rfl (by kernel_rfl) (by kernel_rfl) (by kernel_rfl) (fun _ _ _ h => h) (Or.inl ⟨by rfl, ?_⟩) (by assumption) ?_
              rotate_left
              (focus (intro w hSw; (try dsimp only at hSw); go_simp; (try with_reducible rfl)))
              (try simp only [Act.put, List.getElem_toArray, List.getElem_cons_succ, List.getElem_cons_zero, List.setIfInBounds_toArray, List.set_cons_zero, List.set_cons_succ])
              refine wpAnyH_take (i := 10) (v := ?_) rfl (by kernel_rfl) (by kernel_rfl) (by kernel_rfl) (fun _ _ _ h => h) (Or.inl ⟨by rfl, ?_⟩) (by assumption) ?_
              rotate_left
              (focus (intro w hSw; (try dsimp only at hSw); go_simp; (try with_reducible rfl)))
              (try simp only [Act.put, List.getElem_toArray, List.getElem_cons_succ, List.getElem_cons_zero, List.setIfInBounds_toArray, List.set_cons_zero, List.set_cons_succ])
              refine wpAnyH_take (i := 11) (v := ?_) rfl (by kernel_rfl) (by kernel_rfl) (by kernel_rfl) (fun _ _ _ h => h) (Or.inl ⟨by rfl, ?_⟩) (by assumption) ?_
              rotate_left
              (focus (intro w hSw; (try dsimp only at hSw); go_simp; (try with_reducible rfl)))
              (try simp only [Act.put, List.getElem_toArray, List.getElem_cons_succ, List.getElem_cons_zero, List.setIfInBounds_toArray, List.set_cons_zero, List.set_cons_succ])
              refine wpAnyH_take (i := 12) (v := ?_) rfl (by kernel_rfl) (by kernel_rfl) (by kernel_rfl) (fun _ _ _ h => h) (Or.inl ⟨by rfl, ?_⟩) (by assumption) ?_
              rotate_left
              (focus (intro w hSw; (try dsimp only at hSw); go_simp; (try with_reducible rfl)))
              (try simp only [Act.put, List.getElem_toArray, List.getElem_cons_succ, List.getElem_cons_zero, List.setIfInBounds_toArray, List.set_cons_zero, List.set_cons_succ])
              refine wpAnyH_take (i := 14) (v := ?_) rfl (by kernel_rfl) (by kernel_rfl) (by kernel_rfl) (fun _ _ _ h => h) (Or.inl ⟨by rfl, ?_⟩) (by assumption) ?_
              rotate_left
              (focus (intro w hSw; (try dsimp only at hSw); go_simp; (try with_reducible rfl)))
              (try simp only [Act.put, List.getElem_toArray, List.getElem_cons_succ, List.getElem_cons_zero, List.setIfInBounds_toArray, List.set_cons_zero, List.set_cons_succ])
              refine wpAnyH_take (i := 15) (v := ?_) rfl (by kernel_rfl) (by kernel_rfl) (by kernel_rfl) (fun _ _ _ h => h) (Or.inl ⟨by rfl, ?_⟩) (by assumption) ?_
              rotate_left
              (focus (intro w hSw; (try dsimp only at hSw); go_simp; (try with_reducible rfl)))
              (try simp only [Act.put, List.getElem_toArray, List.getElem_cons_succ, List.getElem_cons_zero, List.setIfInBounds_toArray, List.set_cons_zero, List.set_cons_succ])
              refine wpAnyH_take (i := 16) (v := ?_) rfl (by kernel_rfl) (by kernel_rfl) (by kernel_rfl) (fun _ _ _ h => h) (Or.inl ⟨by rfl, ?_⟩) (by assumption) ?_
              rotate_left
              (focus (intro w hSw; (try dsimp only at hSw); go_simp; (try with_reducible rfl)))
              (try simp only [Act.put, List.getElem_toArray, List.getElem_cons_succ, List.getElem_cons_zero, List.setIfInBounds_toArray, List.set_cons_zero, List.set_cons_succ])
              refine wpAnyH_take (i := 17) (v := ?_) rfl (by kernel_rfl) (by kernel_rfl) (by kernel_rfl) (fun _ _ _ h => h) (Or.inl ⟨by rfl, ?_⟩) (by assumption) ?_
              rotate_left
              (focus (intro w hSw; (try dsimp only at hSw); go_simp; (try with_reducible rfl)))
              (try simp only [Act.put, List.getElem_toArray, List.getElem_cons_succ, List.getElem_cons_zero, List.setIfInBounds_toArray, List.set_cons_zero, List.set_cons_succ])
              refine wpAnyH_take (i := 18) (v := ?_) rfl (by kernel_rfl) (by kernel_rfl) (by kernel_rfl) (fun _ _ _ h => h) (Or.inl ⟨by rfl, ?_⟩) (by assumption) ?_
              rotate_left
              (focus (intro w hSw; (try dsimp only at hSw); go_simp; (try with_reducible rfl)))
              (try simp only [Act.put, List.getElem_toArray, List.getElem_cons_succ, List.getElem_cons_zero, List.setIfInBounds_toArray, List.set_cons_zero, List.set_cons_succ])
              refine wpAnyH_take (i := 19) (v := ?_) rfl (by kernel_rfl) (by kernel_rfl) (by kernel_rfl) (fun _ _ _ h => h) (Or.inl ⟨by rfl, ?_⟩) (by assumption) ?_
              rotate_left
              (focus (intro w hSw; (try dsimp only at hSw); go_simp; (try with_reducible rfl)))
              (try simp only [Act.put, List.getElem_toArray, List.getElem_cons_succ, List.getElem_cons_zero, List.setIfInBounds_toArray, List.set_cons_zero, List.set_cons_succ])
              refine wpAnyH_take (i := 20) (v := ?_) rfl (by kernel_rfl) (by kernel_rfl) (by kernel_rfl) (fun _ _ _ h => h) (Or.inl ⟨by rfl, ?_⟩) (by assumption) ?_
              rotate_left
              (focus (intro w hSw; (try dsimp only at hSw); go_simp; (try with_reducible rfl)))
              (try simp only [Act.put, List.getElem_toArray, List.getElem_cons_succ, List.getElem_cons_zero, List.setIfInBounds_toArray, List.set_cons_zero, List.set_cons_succ])
              refine wpAnyH_take (i := 21) (v := ?_) rfl (by kernel_rfl) (by kernel_rfl) (by kernel_rfl) (fun _ _ _ h => h) (Or.inl ⟨by rfl, ?_⟩) (by assumption) ?_
              rotate_left
              (focus (intro w hSw; (try dsimp only at hSw); go_simp; (try with_reducible rfl)))
              (try simp only [Act.put, List.getElem_toArray, List.getElem_cons_succ, List.getElem_cons_zero, List.setIfInBounds_toArray, List.set_cons_zero, List.set_cons_succ])
              refine wpAnyH_take (i := 22) (v := ?_) rfl (by kernel_rfl) (by kernel_rfl) (by kernel_rfl) (fun _ _ _ h => h) (Or.inl ⟨by rfl, ?_⟩) (by assumption) ?_
              rotate_left
              (focus (intro w hSw; (try dsimp only at hSw); go_simp; (try with_reducible rfl)))
              (try simp only [Act.put, List.getElem_toArray, List.getElem_cons_succ, List.getElem_cons_zero, List.setIfInBounds_toArray, List.set_cons_zero, List.set_cons_succ])
              refine wpAnyH_ready (rs := [13]) (by kernel_rfl) (by simp) ?_
              refine AllReadyH.cons rfl (fun K hK => ?_) AllReadyH.nil
              go_simp
              (go_at_call 80; (with_reducible refine (stimes_any P _ (a.get i) (b.get k) _ (by first | omega | (simp <;> omega)) hsc hsf).mono ?_); rintro e w5 ho; obtain ⟨rfl, hs⟩ := ho.fn; have q0 : w5.cell? ⟨A, i * 3, none⟩ = some (.int .i64 (a.get i).re) := (hs.atc A (by first | omega | (simp <;> omega)) (by omega) _).trans b0; have q1 : w5.cell? ⟨A, i * 3 + 1, none⟩ = some (.int .i64 (a.get i).im) := (hs.atc A (by first | omega | (simp <;> omega)) (by omega) _).trans b1; have q2 : w5.cell? ⟨A, i * 3 + 2, none⟩ = some (.int .i64 (a.get i).den) := (hs.atc A (by first | omega | (simp <;> omega)) (by omega) _).trans b2; have q3 : w5.cell? ⟨B, k * 3, none⟩ = some (.int .i64 (b.get k).re) := (hs.atc B (by first | omega | (simp <;> omega)) (by omega) _).trans b3; have q4 : w5.cell? ⟨B, k * 3 + 1, none⟩ = some (.int .i64 (b.get k).im) := (hs.atc B (by first | omega | (simp <;> omega)) (by omega) _).trans b4; have q5 : w5.cell? ⟨B, k * 3 + 2, none⟩ = some (.int .i64 (b.get k).den) := (hs.atc B (by first | omega | (simp <;> omega)) (by omega) _).trans b5; have q6 : w5.cell? ⟨A, k * 3, none⟩ = some (.int .i64 (a.get k).re) := (hs.atc A (by first | omega | (simp <;> omega)) (by omega) _).trans b6; have q7 : w5.cell? ⟨A, k * 3 + 1, none⟩ = some (.int .i64 (a.get k).im) := (hs.atc A (by first | omega | (simp <;> omega)) (by omega) _).trans b7; have q8 : w5.cell? ⟨A, k * 3 + 2, none⟩ = some (.int .i64 (a.get k).den) := (hs.atc A (by first | omega | (simp <;> omega)) (by omega) _).trans b8; have q9 : w5.cell? ⟨B, i * 3, none⟩ = some (.int .i64 (b.get i).re) := (hs.atc B (by first | omega | (simp <;> omega)) (by omega) _).trans b9; have q10 : w5.cell? ⟨B, i * 3 + 1, none⟩ = some (.int .i64 (b.get i).im) := (hs.atc B (by first | omega | (simp <;> omega)) (by omega) _).trans b10; have q11 : w5.cell? ⟨B, i * 3 + 2, none⟩ = some (.int .i64 (b.get i).den) := (hs.atc B (by first | omega | (simp <;> omega)) (by omega) _).trans b11; have hsc := hs.cell; have hsf := hs.free; have hzw5 : P < w5.heap.size := Nat.lt_of_lt_of_le (by first | omega | (simp <;> omega)) hs.size; have HB := Lib.hid (show Below w.heap.size w w5 from hs.own HB.out (by omega)); clear ho hs)
              skip
              refine hK.out _ _ ((show (_ ∧ _) from ⟨q0, q1, q2, q3, q4, q5, q6, q7, q8, q9, q10, q11⟩)) (fun hHeld => ?_)
              clear hK K
              (try simp only [Act.put, List.getElem_toArray, List.getElem_cons_succ, List.getElem_cons_zero, List.setIfInBounds_toArray, List.set_cons_zero, List.set_cons_succ])
              refine wpAnyH_ready (rs := [23]) (by kernel_rfl) (by simp) ?_
              refine AllReadyH.cons rfl (fun K hK => ?_) AllReadyH.nil
              go_simp
              (go_at_call 80; (with_reducible refine (stimes_any P _ (a.get k) (b.get i) _ (by first | omega | (simp <;> omega)) hsc hsf).mono ?_); rintro e w6 ho; obtain ⟨rfl, hs⟩ := ho.fn; have r0 : w6.cell? ⟨A, i * 3, none⟩ = some (.int .i64 (a.get i).re) := (hs.atc A (by first | omega | (simp <;> omega)) (by omega) _).trans q0; have r1 : w6.cell? ⟨A, i * 3 + 1, none⟩ = some (.int .i64 (a.get i).im) := (hs.atc A (by first | omega | (simp <;> omega)) (by omega) _).trans q1; have r2 : w6.cell? ⟨A, i * 3 + 2, none⟩ = some (.int .i64 (a.get i).den) := (hs.atc A (by first | omega | (simp <;> omega)) (by omega) _).trans q2; have r3 : w6.cell? ⟨B, k * 3, none⟩ = some (.int .i64 (b.get k).re) := (hs.atc B (by first | omega | (simp <;> omega)) (by omega) _).trans q3; have r4 : w6.cell? ⟨B, k * 3 + 1, none⟩ = some (.int .i64 (b.get k).im) := (hs.atc B (by first | omega | (simp <;> omega)) (by omega) _).trans q4; have r5 : w6.cell? ⟨B, k * 3 + 2, none⟩ = some (.int .i64 (b.get k).den) := (hs.atc B (by first | omega | (simp <;> omega)) (by omega) _).trans q5; have r6 : w6.cell? ⟨A, k * 3, none⟩ = some (.int .i64 (a.get k).re) := (hs.atc A (by first | omega | (simp <;> omega)) (by omega) _).trans q6; have r7 : w6.cell? ⟨A, k * 3 + 1, none⟩ = some (.int .i64 (a.get k).im) := (hs.atc A (by first | omega | (simp <;> omega)) (by omega) _).trans q7; have r8 : w6.cell? ⟨A, k * 3 + 2, none⟩ = some (.int .i64 (a.get k).den) := (hs.atc A (by first | omega | (simp <;> omega)) (by omega) _).trans q8; have r9 : w6.cell? ⟨B, i * 3, none⟩ = some (.int .i64 (b.get i).re) := (hs.atc B (by first | omega | (simp <;> omega)) (by omega) _).trans q9; have r10 : w6.cell? ⟨B, i * 3 + 1, none⟩ = some (.int .i64 (b.get i).im) := (hs.atc B (by first | omega | (simp <;> omega)) (by omega) _).trans q10; have r11 : w6.cell? ⟨B, i * 3 + 2, none⟩ = some (.int .i64 (b.get i).den) := (hs.atc B (by first | omega | (simp <;> omega)) (by omega) _).trans q11; have hsc := hs.cell; have hsf := hs.free; have hzw6 : P < w6.heap.size := Nat.lt_of_lt_of_le (by first | omega | (simp <;> omega)) hs.size; have HB := Lib.hid (show Below w.heap.size w w6 from hs.own HB.out (by omega)); clear ho hs)
              skip
              refine hK.out _ _ ((show (_ ∧ _) from ⟨r0, r1, r2, r3, r4, r5, r6, r7, r8, r9, r10, r11⟩)) (fun hHeld => ?_)
              clear hK K
              (try simp only [Act.put, List.getElem_toArray, List.getElem_cons_succ, List.getElem_cons_zero, List.setIfInBounds_toArray, List.set_cons_zero, List.set_cons_succ])
              have hsc := hsc.trans (show _ = some (Value.bool true) by rw [c1, c2]; rfl)
              refine wpAnyH_take (i := 24) (v := ?_) rfl (by kernel_rfl) (by kernel_rfl) (by kernel_rfl) (fun _ _ _ h => h) (Or.inl ⟨by rfl, ?_⟩) (by assumption) ?_
              rotate_left
              (focus (intro w hSw; (try dsimp only at hSw); go_simp; (try with_reducible rfl)))
              (try simp only [Act.put, List.getElem_toArray, List.getElem_cons_succ, List.getElem_cons_zero, List.setIfInBounds_toArray, List.set_cons_zero, List.set_cons_succ])
              refine wpAnyH_take (i := 25) (v := ?_) rfl (by kernel_rfl) (by kernel_rfl) (by kernel_rfl) (fun _ _ _ h => h) (Or.inl ⟨by rfl, ?_⟩) (by assumption) ?_
              rotate_left
              (focus (intro w hSw; (try dsimp only at hSw); go_simp; (try with_reducible rfl)))
              (try simp only [Act.put, List.getElem_toArray, List.getElem_cons_succ, List.getElem_cons_zero, List.setIfInBounds_toArray, List.set_cons_zero, List.set_cons_succ])
              refine wpAnyH_take (i := 26) (v := ?_) rfl (by kernel_rfl) (by kernel_rfl) (by kernel_rfl) (fun _ _ _ h => h) (Or.inl ⟨by rfl, ?_⟩) (by assumption) ?_
              rotate_left
              (focus (intro w hSw; (try dsimp only at hSw); go_simp; (try with_reducible rfl)))
              (try simp only [Act.put, List.getElem_toArray, List.getElem_cons_succ, List.getElem_cons_zero, List.setIfInBounds_toArray, List.set_cons_zero, List.set_cons_succ])
              refine wpAnyH_take (i := 27) (v := ?_) rfl (by kernel_rfl) (by kernel_rfl) (by kernel_rfl) (fun _ _ _ h => h) (Or.inl ⟨by rfl, ?_⟩) (by assumption) ?_
              rotate_left
              (focus (intro w hSw; (try dsimp only at hSw); go_simp; (try with_reducible rfl)))
              (try simp only [Act.put, List.getElem_toArray, List.getElem_cons_succ, List.getElem_cons_zero, List.setIfInBounds_toArray, List.set_cons_zero, List.set_cons_succ])
              refine wpAnyH_take (i := 28) (v := ?_) rfl (by kernel_rfl) (by kernel_rfl) (by kernel_rfl) (fun _ _ _ h => h) (Or.inl ⟨by rfl, ?_⟩) (by assumption) ?_
              rotate_left
              (focus (intro w hSw; (try dsimp only at hSw); go_simp; (try with_reducible rfl)))
              (try simp only [Act.put, List.getElem_toArray, List.getElem_cons_succ, List.getElem_cons_zero, List.setIfInBounds_toArray, List.set_cons_zero, List.set_cons_succ])
              refine wpAnyH_take (i := 29) (v := ?_) rfl (by kernel_rfl) (by kernel_rfl) (by kernel_rfl) (fun _ _ _ h => h) (Or.inl ⟨by rfl, ?_⟩) (by assumption) ?_
              rotate_left
              (focus (intro w hSw; (try dsimp only at hSw); go_simp; (try with_reducible rfl)))
              (try simp only [Act.put, List.getElem_toArray, List.getElem_cons_succ, List.getElem_cons_zero, List.setIfInBounds_toArray, List.set_cons_zero, List.set_cons_succ])
              refine wpAnyH_ready (rs := [30]) (by kernel_rfl) (by simp) ?_
              refine AllReadyH.cons rfl (fun K hK => ?_) AllReadyH.nil
              go_simp
              refine hK.out _ _ ((show (_ ∧ _) from ⟨r0, r1, r2, r3, r4, r5, r6, r7, r8, r9, r10, r11⟩)) (fun hHeld => ?_)
              clear hK K
              (try simp only [Act.put, List.getElem_toArray, List.getElem_cons_succ, List.getElem_cons_zero, List.setIfInBounds_toArray, List.set_cons_zero, List.set_cons_succ])
              refine wpAnyH_take (i := 31) (v := ?_) rfl (by kernel_rfl) (by kernel_rfl) (by kernel_rfl) (fun _ _ _ h => h) (Or.inl ⟨by rfl, ?_⟩) (by assumption) ?_
              rotate_left
              (focus (intro w hSw; (try dsimp only at hSw); go_simp; (try with_reducible rfl)))
              (try simp only [Act.put, List.getElem_toArray, List.getElem_cons_succ, List.getElem_cons_zero, List.setIfInBounds_toArray, List.set_cons_zero, List.set_cons_succ])
              refine wpAnyH_done (by kernel_rfl) ?_ _
              clear hHeld
              go_wp2
              go_ret
              exact ⟨by rw [HG.out]; rfl, HB.out⟩
            · cases c2 : (fTimes (a.get k) (b.get i)).2
              · have n2 := fTimes_no _ _ c2
                have v1 := vld_den (fTimes_vld c1).2.2
                rw [n2] at e3
                exact absurd (show (fTimes (a.get i) (b.get k)).1.den = 0 from e3) (by omega)
              · have hg : i ≠ k → gpB a b i k = true := fun _ => by unfold gpB frEq; rw [c1, c2]; simp [e1, e2, e3]
                have hsc : wr.drew.cell? ⟨P, 0, none⟩ = some (.bool false) := HT.out.cell
                have hsf : wr.drew.frozen? ⟨P, 0, none⟩ = false := HT.out.free
                have hzA := HT.out.hA
                have hzB := HT.out.hB
                have hzP := HT.out.wP
                have hzQ := HT.out.hP
                have hzW := HT.out.below.size
                have HB := Lib.hid HT.out.below.drew
                have b0 : wr.drew.cell? ⟨A, i * 3, none⟩ = some (.int .i64 (a.get i).re) := (HT.out.one i (by omega)).1
                have b1 : wr.drew.cell? ⟨A, i * 3 + 1, none⟩ = some (.int .i64 (a.get i).im) := (HT.out.one i (by omega)).2.1
                have b2 : wr.drew.cell? ⟨A, i * 3 + 2, none⟩ = some (.int .i64 (a.get i).den) := (HT.out.one i (by omega)).2.2
                have b3 : wr.drew.cell? ⟨B, k * 3, none⟩ = some (.int .i64 (b.get k).re) := (HT.out.two k (by omega)).1
                have b4 : wr.drew.cell? ⟨B, k * 3 + 1, none⟩ = some (.int .i64 (b.get k).im) := (HT.out.two k (by omega)).2.1
                have b5 : wr.drew.cell? ⟨B, k * 3 + 2, none⟩ = some (.int .i64 (b.get k).den) := (HT.out.two k (by omega)).2.2
                have b6 : wr.drew.cell? ⟨A, k * 3, none⟩ = some (.int .i64 (a.get k).re) := (HT.out.one k (by omega)).1
                have b7 : wr.drew.cell? ⟨A, k * 3 + 1, none⟩ = some (.int .i64 (a.get k).im) := (HT.out.one k (by omega)).2.1
                have b8 : wr.drew.cell? ⟨A, k * 3 + 2, none⟩ = some (.int .i64 (a.get k).den) := (HT.out.one k (by omega)).2.2
                have b9 : wr.drew.cell? ⟨B, i * 3, none⟩ = some (.int .i64 (b.get i).re) := (HT.out.two i (by omega)).1
                have b10 : wr.drew.cell? ⟨B, i * 3 + 1, none⟩ = some (.int .i64 (b.get i).im) := (HT.out.two i (by omega)).2.1
                have b11 : wr.drew.cell? ⟨B, i * 3 + 2, none⟩ = some (.int .i64 (b.get i).den) := (HT.out.two i (by omega)).2.2
                have b12 := hsc
                have HT := Lib.hid HT.out.drew
                go_wp2
                go_region_held3 (fun w' => w'.cell? ⟨A, i * 3, none⟩ = some (.int .i64 (a.get i).re) ∧ w'.cell? ⟨A, i * 3 + 1, none⟩ = some (.int .i64 (a.get i).im) ∧ w'.cell? ⟨A, i * 3 + 2, none⟩ = some (.int .i64 (a.get i).den) ∧ w'.cell? ⟨B, k * 3, none⟩ = some (.int .i64 (b.get k).re) ∧ w'.cell? ⟨B, k * 3 + 1, none⟩ = some (.int .i64 (b.get k).im) ∧ w'.cell? ⟨B, k * 3 + 2, none⟩ = some (.int .i64 (b.get k).den) ∧ w'.cell? ⟨A, k * 3, none⟩ = some (.int .i64 (a.get k).re) ∧ w'.cell? ⟨A, k * 3 + 1, none⟩ = some (.int .i64 (a.get k).im) ∧ w'.cell? ⟨A, k * 3 + 2, none⟩ = some (.int .i64 (a.get k).den) ∧ w'.cell? ⟨B, i * 3, none⟩ = some (.int .i64 (b.get i).re) ∧ w'.cell? ⟨B, i * 3 + 1, none⟩ = some (.int .i64 (b.get i).im) ∧ w'.cell? ⟨B, i * 3 + 2, none⟩ = some (.int .i64 (b.get i).den) ∧ w'.cell? ⟨P, 0, none⟩ = some (.bool false)) (((try dsimp only); (first | (with_reducible exact ⟨b0, b1, b2, b3, b4, b5, b6, b7, b8, b9, b10, b11, b12⟩) | (with_reducible exact ⟨q0, q1, q2, q3, q4, q5, q6, q7, q8, q9, q10, q11, q12⟩) | (with_reducible exact ⟨r0, r1, r2, r3, r4, r5, r6, r7, r8, r9, r10, r11, r12⟩)))) (first | (go_at_call 80; (with_reducible refine (stimes_any P _ (a.get i) (b.get k) _ (by first | omega | (simp <;> omega)) hsc hsf).mono ?_); rintro e w5 ho; obtain ⟨rfl, hs⟩ := ho.fn; have q0 : w5.cell? ⟨A, i * 3, none⟩ = some (.int .i64 (a.get i).re) := (hs.atc A (by first | omega | (simp <;> omega)) (by omega) _).trans b0; have q1 : w5.cell? ⟨A, i * 3 + 1, none⟩ = some (.int .i64 (a.get i).im) := (hs.atc A (by first | omega | (simp <;> omega)) (by omega) _).trans b1; have q2 : w5.cell? ⟨A, i * 3 + 2, none⟩ = some (.int .i64 (a.get i).den) := (hs.atc A (by first | omega | (simp <;> omega)) (by omega) _).trans b2; have q3 : w5.cell? ⟨B, k * 3, none⟩ = some (.int .i64 (b.get k).re) := (hs.atc B (by first | omega | (simp <;> omega)) (by omega) _).trans b3; have q4 : w5.cell? ⟨B, k * 3 + 1, none⟩ = some (.int .i64 (b.get k).im) := (hs.atc B (by first | omega | (simp <;> omega)) (by omega) _).trans b4; have q5 : w5.cell? ⟨B, k * 3 + 2, none⟩ = some (.int .i64 (b.get k).den) := (hs.atc B (by first | omega | (simp <;> omega)) (by omega) _).trans b5; have q6 : w5.cell? ⟨A, k * 3, none⟩ = some (.int .i64 (a.get k).re) := (hs.atc A (by first | omega | (simp <;> omega)) (by omega) _).trans b6; have q7 : w5.cell? ⟨A, k * 3 + 1, none⟩ = some (.int .i64 (a.get k).im) := (hs.atc A (by first | omega | (simp <;> omega)) (by omega) _).trans b7; have q8 : w5.cell? ⟨A, k * 3 + 2, none⟩ = some (.int .i64 (a.get k).den) := (hs.atc A (by first | omega | (simp <;> omega)) (by omega) _).trans b8; have q9 : w5.cell? ⟨B, i * 3, none⟩ = some (.int .i64 (b.get i).re) := (hs.atc B (by first | omega | (simp <;> omega)) (by omega) _).trans b9; have q10 : w5.cell? ⟨B, i * 3 + 1, none⟩ = some (.int .i64 (b.get i).im) := (hs.atc B (by first | omega | (simp <;> omega)) (by omega) _).trans b10; have q11 : w5.cell? ⟨B, i * 3 + 2, none⟩ = some (.int .i64 (b.get i).den) := (hs.atc B (by first | omega | (simp <;> omega)) (by omega) _).trans b11; have hsc := hs.cell; have hsf := hs.free; have hzw5 : P < w5.heap.size := Nat.lt_of_lt_of_le (by first | omega | (simp <;> omega)) hs.size; rw [c1] at hs hsc; have q12 : w5.cell? ⟨P, 0, none⟩ = some (.bool false) := hsc; have HT := Lib.hid (HT.out.sm hs); clear ho hs) | (go_at_call 80; (with_reducible refine (stimes_any P _ (a.get k) (b.get i) _ (by first | omega | (simp <;> omega)) hsc hsf).mono ?_); rintro e w6 ho; obtain ⟨rfl, hs⟩ := ho.fn; have r0 : w6.cell? ⟨A, i * 3, none⟩ = some (.int .i64 (a.get i).re) := (hs.atc A (by first | omega | (simp <;> omega)) (by omega) _).trans q0; have r1 : w6.cell? ⟨A, i * 3 + 1, none⟩ = some (.int .i64 (a.get i).im) := (hs.atc A (by first | omega | (simp <;> omega)) (by omega) _).trans q1; have r2 : w6.cell? ⟨A, i * 3 + 2, none⟩ = some (.int .i64 (a.get i).den) := (hs.atc A (by first | omega | (simp <;> omega)) (by omega) _).trans q2; have r3 : w6.cell? ⟨B, k * 3, none⟩ = some (.int .i64 (b.get k).re) := (hs.atc B (by first | omega | (simp <;> omega)) (by omega) _).trans q3; have r4 : w6.cell? ⟨B, k * 3 + 1, none⟩ = some (.int .i64 (b.get k).im) := (hs.atc B (by first | omega | (simp <;> omega)) (by omega) _).trans q4; have r5 : w6.cell? ⟨B, k * 3 + 2, none⟩ = some (.int .i64 (b.get k).den) := (hs.atc B (by first | omega | (simp <;> omega)) (by omega) _).trans q5; have r6 : w6.cell? ⟨A, k * 3, none⟩ = some (.int .i64 (a.get k).re) := (hs.atc A (by first | omega | (simp <;> omega)) (by omega) _).trans q6; have r7 : w6.cell? ⟨A, k * 3 + 1, none⟩ = some (.int .i64 (a.get k).im) := (hs.atc A (by first | omega | (simp <;> omega)) (by omega) _).trans q7; have r8 : w6.cell? ⟨A, k * 3 + 2, none⟩ = some (.int .i64 (a.get k).den) := (hs.atc A (by first | omega | (simp <;> omega)) (by omega) _).trans q8; have r9 : w6.cell? ⟨B, i * 3, none⟩ = some (.int .i64 (b.get i).re) := (hs.atc B (by first | omega | (simp <;> omega)) (by omega) _).trans q9; have r10 : w6.cell? ⟨B, i * 3 + 1, none⟩ = some (.int .i64 (b.get i).im) := (hs.atc B (by first | omega | (simp <;> omega)) (by omega) _).trans q10; have r11 : w6.cell? ⟨B, i * 3 + 2, none⟩ = some (.int .i64 (b.get i).den) := (hs.atc B (by first | omega | (simp <;> omega)) (by omega) _).trans q11; have hsc := hs.cell; have hsf := hs.free; have hzw6 : P < w6.heap.size := Nat.lt_of_lt_of_le (by first | omega | (simp <;> omega)) hs.size; rw [c2] at hs hsc; have r12 : w6.cell? ⟨P, 0, none⟩ = some (.bool false) := hsc; have HT := Lib.hid (HT.out.sm hs); clear ho hs))
                have HS := Lib.hid (HT.out.step hk hg)
                clear HT
                go_wp2
                go_roundw
                case rel => exact ⟨k + 1, by go_num, HS.out⟩
                case measure => simp [intOf]; omega
        · obtain rfl : k = 4 := by have := hT.lk; omega
          go_wp2
          go_roundw
          case rel => exact ⟨i + 1, by go_num, hT.row h4⟩
          case measure => simp [intOf]; omega
    · obtain rfl : i = 4 := by have := hT.le; omega
      have HG : Hid (alB a b = true) := alB_all (fun p q hq hp => hT.good p q (by omega) hp (by omega) (Or.inl hp))
      go_wp2
      go_ret
      exact ⟨by rw [HG.out]; rfl, hT.below⟩
end Go.Proofs.YtmcokdiopcpifaaDoor
