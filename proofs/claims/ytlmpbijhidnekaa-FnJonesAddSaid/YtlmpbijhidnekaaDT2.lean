/- Contracts: draws of two vectors. -/
import Derived.Test.YtlmpbijhidnekaaDJ
import Derived.Test.YtlmpbijhidnekaaSG
import Derived.Deep.DeepCutAuto
namespace Go.Proofs.Ytlmpbijhidnekaa
open Go.RowKit Pol

theorem box2 {W : World} {X : Nat} {m : J2} (r : Room W X 2) : BoxAt (((((((W).setCell ⟨X, 0, none⟩ (.int .i64 m.x.re)).setCell ⟨X, 1, none⟩ (.int .i64 m.x.im)).setCell ⟨X, 2, none⟩ (.int .i64 m.x.den)).setCell ⟨X, 3, none⟩ (.int .i64 m.y.re)).setCell ⟨X, 4, none⟩ (.int .i64 m.y.im)).setCell ⟨X, 5, none⟩ (.int .i64 m.y.den)) X (j2k m) 2 := by
  show BoxAt (putF (putF W X 0 (j2k m 0)) X 1 (j2k m 1)) X (j2k m) 2
  exact BoxAt.put (g := j2k m) (k := 1) (BoxAt.put (g := j2k m) (k := 0) (fun _ hk => absurd hk (by omega)) r (by omega)) (r.put _ _ _) (by omega)
theorem BoxAt.drw {W : World} {X n : Nat} {g : Nat → Fr} (h : BoxAt W X g n) : BoxAt W.drew X g n := h
theorem Own.out3 {R : Nat} {W w1 : World} (h : Own R W w1) : ∃ B, B = W.heap.size ∧ (∀ k, k < B → k ≠ R → ∀ o, w1.cell? ⟨k, o, none⟩ = W.cell? ⟨k, o, none⟩) ∧ (∀ k, k < B → k ≠ R → ∀ o, w1.frozen? ⟨k, o, none⟩ = W.frozen? ⟨k, o, none⟩) :=
  ⟨_, rfl, fun _ hk hn o => h.cell hk hn o, fun _ hk hn o => h.frozen hk hn o⟩
theorem Rd.put2 {N R : Nat} {a0 : Option Addr} {len cap k : Nat} {w : World} {b o : Nat} {v : Value} (h : Rd N R a0 len cap k w) (hb : b < R ∧ N ≤ b) : Rd N R a0 len cap k (w.setCell ⟨b, o, none⟩ v) := by
  have hf : ∀ B q, B ≠ b → (w.setCell ⟨b, o, none⟩ v).cell? ⟨B, q, none⟩ = w.cell? ⟨B, q, none⟩ := fun B q hB => World.cell?_setCell_far _ _ _ _ (by show b ≠ B; omega)
  refine ⟨by rw [World.size_setCell]; exact h.lt, h.base, (hf _ _ (by omega)).trans h.slice, by obtain ⟨p, h1, h2⟩ := h.place; exact ⟨p, h1, (hf _ _ (by omega)).trans h2⟩, by rw [World.frozen?_setCell]; exact h.free, h.short, h.code.keep fun B q hB => hf B q (by omega)⟩
def JJOut (w : World) (e : Ending) (w' : World) : Prop := ∃ a b : J2, e = .returned (.tuple #[.agg #[.int .i64 a.x.re, .int .i64 a.x.im, .int .i64 a.x.den, .int .i64 a.y.re, .int .i64 a.y.im, .int .i64 a.y.den], .agg #[.int .i64 b.x.re, .int .i64 b.x.im, .int .i64 b.x.den, .int .i64 b.y.re, .int .i64 b.y.im, .int .i64 b.y.den]]) ∧ Below w.heap.size w w'
set_option maxRecDepth 100000 in
set_option maxHeartbeats 40000000 in
theorem l91Two_any (a0 : Option Addr) (len cap : Nat) (w : World) (hc : len ≤ cap) (HC : Code w.heap.size w a0 len) :
    Calls Try.prog 47 #[.slice a0 len cap] w (JJOut w) := by
  have HM0 : Hid (Room ((w.alloc (.cells #[.int .i64 0, .int .i64 0, .int .i64 0, .int .i64 0, .int .i64 0, .int .i64 0] 26)).alloc (.cells #[.int .i64 0, .int .i64 0, .int .i64 0, .int .i64 0, .int .i64 0, .int .i64 0] 26)) w.heap.size 2) := by show Room _ _ _; exact (Room.new' rfl rfl).alloc (by simp) _
  have HM1 : Hid (Room ((w.alloc (.cells #[.int .i64 0, .int .i64 0, .int .i64 0, .int .i64 0, .int .i64 0, .int .i64 0] 26)).alloc (.cells #[.int .i64 0, .int .i64 0, .int .i64 0, .int .i64 0, .int .i64 0, .int .i64 0] 26)) (w.heap.size + 1) 2) := by show Room _ _ _; exact Room.new' (by simp) rfl
  have HB : Hid (Below w.heap.size w ((w.alloc (.cells #[.int .i64 0, .int .i64 0, .int .i64 0, .int .i64 0, .int .i64 0, .int .i64 0] 26)).alloc (.cells #[.int .i64 0, .int .i64 0, .int .i64 0, .int .i64 0, .int .i64 0, .int .i64 0] 26))) := by show Below _ _ _; (repeat' first | exact Below.refl _ _ | apply bl_alloc | apply bl_drewN | apply bl_drew | refine bl_trans ?_ (by assumption) | refine bl_set ?_ (by first | omega | (simp <;> omega)) _)
  have HC1 : Code w.heap.size ((w.alloc (.cells #[.int .i64 0, .int .i64 0, .int .i64 0, .int .i64 0, .int .i64 0, .int .i64 0] 26)).alloc (.cells #[.int .i64 0, .int .i64 0, .int .i64 0, .int .i64 0, .int .i64 0, .int .i64 0] 26)) a0 len := fun i hi => by
    obtain ⟨B, off, h1, h2, z, h3, h4, h5⟩ := HC i hi
    exact ⟨B, off, h1, h2, z, h3, h4, (World.cell?_alloc_old _ _ _ (by show B ≠ _; rw [World.size_alloc]; omega)).trans ((World.cell?_alloc_old _ _ _ (by show B ≠ w.heap.size; omega)).trans h5)⟩
  go_enter Try.func47, Try.ntmps47
  go_wp2_with fail
  refine (open_any w.heap.size a0 len cap _ (by simp) hc HC1).mono ?_
  rintro e w1 ⟨R, len', rfl, hb, hRb, hR⟩
  have HM0 := Lib.hid (HM0.out.below hb (by simp))
  have HM1 := Lib.hid (HM1.out.below hb (by simp))
  have HB := Lib.hid (show Below w.heap.size w w1 from HB.out.trans (hb.mono HB.out.size))
  have hz1 := hb.size
  (try simp at hz1)
  (try simp at hRb)
  have hRl := hR.lt
  clear hb
  go_wp2_with fail
  refine (l91Jones_any (by omega) hR).mono ?_
  rintro e w2 ⟨v, rfl, ⟨a, rfl⟩, hO, hR2⟩
  have hz2 := hO.size
  have HM0 := Lib.hid ((HM0.out.own hO (by omega) (by omega)).alloc (by omega) (.cells #[.int .i64 a.x.re, .int .i64 a.x.im, .int .i64 a.x.den, .int .i64 a.y.re, .int .i64 a.y.im, .int .i64 a.y.den] 26))
  have HM1 := Lib.hid ((HM1.out.own hO (by omega) (by omega)).alloc (by omega) (.cells #[.int .i64 a.x.re, .int .i64 a.x.im, .int .i64 a.x.den, .int .i64 a.y.re, .int .i64 a.y.im, .int .i64 a.y.den] 26))
  have HB := Lib.hid ((hO.mine HB.out (by omega)).alloc (by omega) (.cells #[.int .i64 a.x.re, .int .i64 a.x.im, .int .i64 a.x.den, .int .i64 a.y.re, .int .i64 a.y.im, .int .i64 a.y.den] 26))
  have HX : Hid (BoxAt (w2.alloc (.cells #[.int .i64 a.x.re, .int .i64 a.x.im, .int .i64 a.x.den, .int .i64 a.y.re, .int .i64 a.y.im, .int .i64 a.y.den] 26)) w2.heap.size (j2k a) 2) := by show BoxAt _ _ _ _; exact BoxAt.new _ _ _ _ _ (srcJ a)
  have HR := Lib.hid (hR2.alloc (.cells #[.int .i64 a.x.re, .int .i64 a.x.im, .int .i64 a.x.den, .int .i64 a.y.re, .int .i64 a.y.im, .int .i64 a.y.den] 26))
  clear hR hO hR2
  obtain ⟨V, hV⟩ : ∃ V, V = w2.alloc (.cells #[.int .i64 a.x.re, .int .i64 a.x.im, .int .i64 a.x.den, .int .i64 a.y.re, .int .i64 a.y.im, .int .i64 a.y.den] 26) := ⟨_, rfl⟩
  have hzV : V.heap.size = w2.heap.size + 1 := by rw [hV]; simp
  rw [← hV] at HM0 HM1 HB HX HR
  go_wp2
  rw [← hV]
  clear hV
  have nA : ¬ w2.heap.size = w.heap.size := by omega
  have nB : ¬ w2.heap.size = w.heap.size + 1 := by omega
  have nC : ¬ w.heap.size = w2.heap.size := by omega
  have nD : ¬ w.heap.size + 1 = w2.heap.size := by omega
  obtain ⟨y0_0, e0_0⟩ := Option.isSome_iff_exists.1 (HM0.out 0 (by omega)).1
  have f0_0 := (HM0.out 0 (by omega)).2
  obtain ⟨y0_1, e0_1⟩ := Option.isSome_iff_exists.1 (HM0.out 1 (by omega)).1
  have f0_1 := (HM0.out 1 (by omega)).2
  obtain ⟨y0_2, e0_2⟩ := Option.isSome_iff_exists.1 (HM0.out 2 (by omega)).1
  have f0_2 := (HM0.out 2 (by omega)).2
  obtain ⟨y0_3, e0_3⟩ := Option.isSome_iff_exists.1 (HM0.out 3 (by omega)).1
  have f0_3 := (HM0.out 3 (by omega)).2
  obtain ⟨y0_4, e0_4⟩ := Option.isSome_iff_exists.1 (HM0.out 4 (by omega)).1
  have f0_4 := (HM0.out 4 (by omega)).2
  obtain ⟨y0_5, e0_5⟩ := Option.isSome_iff_exists.1 (HM0.out 5 (by omega)).1
  have f0_5 := (HM0.out 5 (by omega)).2
  obtain ⟨y1_0, e1_0⟩ := Option.isSome_iff_exists.1 (HM1.out 0 (by omega)).1
  have f1_0 := (HM1.out 0 (by omega)).2
  obtain ⟨y1_1, e1_1⟩ := Option.isSome_iff_exists.1 (HM1.out 1 (by omega)).1
  have f1_1 := (HM1.out 1 (by omega)).2
  obtain ⟨y1_2, e1_2⟩ := Option.isSome_iff_exists.1 (HM1.out 2 (by omega)).1
  have f1_2 := (HM1.out 2 (by omega)).2
  obtain ⟨y1_3, e1_3⟩ := Option.isSome_iff_exists.1 (HM1.out 3 (by omega)).1
  have f1_3 := (HM1.out 3 (by omega)).2
  obtain ⟨y1_4, e1_4⟩ := Option.isSome_iff_exists.1 (HM1.out 4 (by omega)).1
  have f1_4 := (HM1.out 4 (by omega)).2
  obtain ⟨y1_5, e1_5⟩ := Option.isSome_iff_exists.1 (HM1.out 5 (by omega)).1
  have f1_5 := (HM1.out 5 (by omega)).2
  go_cut [] (fun wx => ∃ b : J2, Below w.heap.size w wx ∧ BoxAt wx w.heap.size (j2k a) 2 ∧ BoxAt wx (w.heap.size + 1) (j2k b) 2)
  case first =>
    go_region_held3 (fun w' => w'.cell? ⟨w2.heap.size, 0, none⟩ = some (.int .i64 a.x.re) ∧ w'.cell? ⟨w2.heap.size, 1, none⟩ = some (.int .i64 a.x.im) ∧ w'.cell? ⟨w2.heap.size, 2, none⟩ = some (.int .i64 a.x.den) ∧ w'.cell? ⟨w2.heap.size, 3, none⟩ = some (.int .i64 a.y.re) ∧ w'.cell? ⟨w2.heap.size, 4, none⟩ = some (.int .i64 a.y.im) ∧ w'.cell? ⟨w2.heap.size, 5, none⟩ = some (.int .i64 a.y.den)) (((try dsimp only); (with_reducible refine BoxAt.j6 ?_); (focus ((repeat' first | (with_reducible exact HX.out) | (with_reducible refine BoxAt.drw ?_) | (with_reducible refine BoxAt.far ?_ ?_; rotate_left; (focus (first | omega | (simp <;> omega)))) | (with_reducible refine BoxAt.own ?_ HS1.out ?_ ?_; rotate_left; (focus (first | omega | (simp <;> omega))); (focus (first | omega | (simp <;> omega))))); done)))) (first | (go_at_call 40; (with_reducible refine Calls.mono (l91Jones_any (N := w.heap.size) (R := R) (a0 := a0) (len := len') (cap := cap) (k := 0 + 20) (Nat.le_of_ble_eq_true rfl) ?_) ?_); (focus ((repeat' first | (with_reducible exact HR.out) | (with_reducible refine Rd.drew ?_) | (with_reducible refine Rd.put2 ?_ ?_; rotate_left; (focus (first | omega | (simp <;> omega))))); done)); rintro e w5 ⟨v, rfl, ⟨b, rfl⟩, hO, hR⟩; have HS1 := Lib.hid hO; have hz5 := hO.size; (try simp at hz5); obtain ⟨BB, hBB, hcc, hff⟩ := hO.out3; (try simp at hBB); (first | (rcases Nat.lt_or_ge (w.heap.size) BB with hlt | hlt; rotate_left; (exfalso; omega); have yc := hcc (w.heap.size) hlt (by omega); have yf := hff (w.heap.size) hlt (by omega); clear hlt) | skip); (first | (rcases Nat.lt_or_ge (w.heap.size + 1) BB with hlt | hlt; rotate_left; (exfalso; omega); have yc := hcc (w.heap.size + 1) hlt (by omega); have yf := hff (w.heap.size + 1) hlt (by omega); clear hlt) | skip); (first | (rcases Nat.lt_or_ge (w2.heap.size) BB with hlt | hlt; rotate_left; (exfalso; omega); have yc := hcc (w2.heap.size) hlt (by omega); have yf := hff (w2.heap.size) hlt (by omega); clear hlt) | skip); clear hBB hcc hff hO hR))
    all_goals (go_wp2_with fail; go_meet)
    have r0 : Room w5 w.heap.size 2 := (show Room V.drew _ _ from HM0.out).own HS1.out (by show _ < V.heap.size; omega) (by omega)
    have r1 : Room w5 (w.heap.size + 1) 2 := (show Room V.drew _ _ from HM1.out).own HS1.out (by show _ < V.heap.size; omega) (by omega)
    have hB5 : Below w.heap.size w w5 := Own.mine HS1.out (show Below _ _ V.drew from HB.out.drew) (by omega)
    refine ⟨b, ?_, ?_, ?_⟩
    · iterate 12 refine Below.setCell ?_ (by show _ ≤ _; first | exact Nat.le_refl _ | exact Nat.le_succ _) _
      exact hB5
    · iterate 6 refine BoxAt.far ?_ (by omega)
      exact box2 r0
    · refine box2 ?_
      iterate 6 refine Room.set ?_ _ _
      exact r1
  case rest =>
  obtain ⟨b, hB, h0, h1⟩ := hcut
  have k0 := h0.j6
  have k1 := h1.j6
  go_wp2
  refine bodyPost_ret (v := .tuple #[.agg #[.int .i64 a.x.re, .int .i64 a.x.im, .int .i64 a.x.den, .int .i64 a.y.re, .int .i64 a.y.im, .int .i64 a.y.den], .agg #[.int .i64 b.x.re, .int .i64 b.x.im, .int .i64 b.x.den, .int .i64 b.y.re, .int .i64 b.y.im, .int .i64 b.y.den]]) (by simp [results, Try.results47, go_sem, *]) rfl ⟨a, b, rfl, hB⟩
set_option maxRecDepth 100000 in
set_option maxHeartbeats 8000000 in
theorem DrawJonesAdd_any (a0 : Option Addr) (len cap : Nat) (w : World) (hc : len ≤ cap) (HC : Code w.heap.size w a0 len) :
    Calls Try.prog 15 #[.slice a0 len cap] w (JJOut w) := by
  have HM0 : Hid (Room ((w.alloc (.cells #[.int .i64 0, .int .i64 0, .int .i64 0, .int .i64 0, .int .i64 0, .int .i64 0] 26)).alloc (.cells #[.int .i64 0, .int .i64 0, .int .i64 0, .int .i64 0, .int .i64 0, .int .i64 0] 26)) w.heap.size 2) := by show Room _ _ _; exact (Room.new' rfl rfl).alloc (by simp) _
  have HM1 : Hid (Room ((w.alloc (.cells #[.int .i64 0, .int .i64 0, .int .i64 0, .int .i64 0, .int .i64 0, .int .i64 0] 26)).alloc (.cells #[.int .i64 0, .int .i64 0, .int .i64 0, .int .i64 0, .int .i64 0, .int .i64 0] 26)) (w.heap.size + 1) 2) := by show Room _ _ _; exact Room.new' (by simp) rfl
  have HB : Hid (Below w.heap.size w ((w.alloc (.cells #[.int .i64 0, .int .i64 0, .int .i64 0, .int .i64 0, .int .i64 0, .int .i64 0] 26)).alloc (.cells #[.int .i64 0, .int .i64 0, .int .i64 0, .int .i64 0, .int .i64 0, .int .i64 0] 26))) := by show Below _ _ _; (repeat' first | exact Below.refl _ _ | apply bl_alloc | apply bl_drewN | apply bl_drew | refine bl_trans ?_ (by assumption) | refine bl_set ?_ (by first | omega | (simp <;> omega)) _)
  have HC1 : Code ((w.alloc (.cells #[.int .i64 0, .int .i64 0, .int .i64 0, .int .i64 0, .int .i64 0, .int .i64 0] 26)).alloc (.cells #[.int .i64 0, .int .i64 0, .int .i64 0, .int .i64 0, .int .i64 0, .int .i64 0] 26)).heap.size ((w.alloc (.cells #[.int .i64 0, .int .i64 0, .int .i64 0, .int .i64 0, .int .i64 0, .int .i64 0] 26)).alloc (.cells #[.int .i64 0, .int .i64 0, .int .i64 0, .int .i64 0, .int .i64 0, .int .i64 0] 26)) a0 len := fun i hi => by
    obtain ⟨B, off, h1, h2, z, h3, h4, h5⟩ := HC i hi
    exact ⟨B, off, h1, by rw [World.size_alloc, World.size_alloc]; omega, z, h3, h4, (World.cell?_alloc_old _ _ _ (by show B ≠ _; rw [World.size_alloc]; omega)).trans ((World.cell?_alloc_old _ _ _ (by show B ≠ w.heap.size; omega)).trans h5)⟩
  go_enter Try.func15, Try.ntmps15
  go_wp2_with fail
  refine (l91Two_any a0 len cap _ hc HC1).mono ?_
  rintro e w1 ⟨a, b, rfl, hb⟩
  have HM0 := Lib.hid (HM0.out.below hb (by simp))
  have HM1 := Lib.hid (HM1.out.below hb (by simp))
  have HB := Lib.hid (show Below w.heap.size w w1 from HB.out.trans (hb.mono HB.out.size))
  clear hb HC1
  obtain ⟨y0_0, e0_0⟩ := Option.isSome_iff_exists.1 (HM0.out 0 (by omega)).1
  have f0_0 := (HM0.out 0 (by omega)).2
  obtain ⟨y0_1, e0_1⟩ := Option.isSome_iff_exists.1 (HM0.out 1 (by omega)).1
  have f0_1 := (HM0.out 1 (by omega)).2
  obtain ⟨y0_2, e0_2⟩ := Option.isSome_iff_exists.1 (HM0.out 2 (by omega)).1
  have f0_2 := (HM0.out 2 (by omega)).2
  obtain ⟨y0_3, e0_3⟩ := Option.isSome_iff_exists.1 (HM0.out 3 (by omega)).1
  have f0_3 := (HM0.out 3 (by omega)).2
  obtain ⟨y0_4, e0_4⟩ := Option.isSome_iff_exists.1 (HM0.out 4 (by omega)).1
  have f0_4 := (HM0.out 4 (by omega)).2
  obtain ⟨y0_5, e0_5⟩ := Option.isSome_iff_exists.1 (HM0.out 5 (by omega)).1
  have f0_5 := (HM0.out 5 (by omega)).2
  obtain ⟨y1_0, e1_0⟩ := Option.isSome_iff_exists.1 (HM1.out 0 (by omega)).1
  have f1_0 := (HM1.out 0 (by omega)).2
  obtain ⟨y1_1, e1_1⟩ := Option.isSome_iff_exists.1 (HM1.out 1 (by omega)).1
  have f1_1 := (HM1.out 1 (by omega)).2
  obtain ⟨y1_2, e1_2⟩ := Option.isSome_iff_exists.1 (HM1.out 2 (by omega)).1
  have f1_2 := (HM1.out 2 (by omega)).2
  obtain ⟨y1_3, e1_3⟩ := Option.isSome_iff_exists.1 (HM1.out 3 (by omega)).1
  have f1_3 := (HM1.out 3 (by omega)).2
  obtain ⟨y1_4, e1_4⟩ := Option.isSome_iff_exists.1 (HM1.out 4 (by omega)).1
  have f1_4 := (HM1.out 4 (by omega)).2
  obtain ⟨y1_5, e1_5⟩ := Option.isSome_iff_exists.1 (HM1.out 5 (by omega)).1
  have f1_5 := (HM1.out 5 (by omega)).2
  go_wp2
  refine bodyPost_ret (v := .tuple #[.agg #[.int .i64 a.x.re, .int .i64 a.x.im, .int .i64 a.x.den, .int .i64 a.y.re, .int .i64 a.y.im, .int .i64 a.y.den], .agg #[.int .i64 b.x.re, .int .i64 b.x.im, .int .i64 b.x.den, .int .i64 b.y.re, .int .i64 b.y.im, .int .i64 b.y.den]]) (by simp [results, Try.results15, go_sem, *]) rfl ⟨a, b, rfl, ?_⟩
  iterate 12 refine Below.setCell ?_ (by show _ ≤ _; first | exact Nat.le_refl _ | exact Nat.le_succ _) _
  exact HB.out
set_option maxRecDepth 100000 in
set_option maxHeartbeats 8000000 in
theorem DrawJonesInner_any (a0 : Option Addr) (len cap : Nat) (w : World) (hc : len ≤ cap) (HC : Code w.heap.size w a0 len) :
    Calls Try.prog 26 #[.slice a0 len cap] w (JJOut w) := by
  have HM0 : Hid (Room ((w.alloc (.cells #[.int .i64 0, .int .i64 0, .int .i64 0, .int .i64 0, .int .i64 0, .int .i64 0] 26)).alloc (.cells #[.int .i64 0, .int .i64 0, .int .i64 0, .int .i64 0, .int .i64 0, .int .i64 0] 26)) w.heap.size 2) := by show Room _ _ _; exact (Room.new' rfl rfl).alloc (by simp) _
  have HM1 : Hid (Room ((w.alloc (.cells #[.int .i64 0, .int .i64 0, .int .i64 0, .int .i64 0, .int .i64 0, .int .i64 0] 26)).alloc (.cells #[.int .i64 0, .int .i64 0, .int .i64 0, .int .i64 0, .int .i64 0, .int .i64 0] 26)) (w.heap.size + 1) 2) := by show Room _ _ _; exact Room.new' (by simp) rfl
  have HB : Hid (Below w.heap.size w ((w.alloc (.cells #[.int .i64 0, .int .i64 0, .int .i64 0, .int .i64 0, .int .i64 0, .int .i64 0] 26)).alloc (.cells #[.int .i64 0, .int .i64 0, .int .i64 0, .int .i64 0, .int .i64 0, .int .i64 0] 26))) := by show Below _ _ _; (repeat' first | exact Below.refl _ _ | apply bl_alloc | apply bl_drewN | apply bl_drew | refine bl_trans ?_ (by assumption) | refine bl_set ?_ (by first | omega | (simp <;> omega)) _)
  have HC1 : Code ((w.alloc (.cells #[.int .i64 0, .int .i64 0, .int .i64 0, .int .i64 0, .int .i64 0, .int .i64 0] 26)).alloc (.cells #[.int .i64 0, .int .i64 0, .int .i64 0, .int .i64 0, .int .i64 0, .int .i64 0] 26)).heap.size ((w.alloc (.cells #[.int .i64 0, .int .i64 0, .int .i64 0, .int .i64 0, .int .i64 0, .int .i64 0] 26)).alloc (.cells #[.int .i64 0, .int .i64 0, .int .i64 0, .int .i64 0, .int .i64 0, .int .i64 0] 26)) a0 len := fun i hi => by
    obtain ⟨B, off, h1, h2, z, h3, h4, h5⟩ := HC i hi
    exact ⟨B, off, h1, by rw [World.size_alloc, World.size_alloc]; omega, z, h3, h4, (World.cell?_alloc_old _ _ _ (by show B ≠ _; rw [World.size_alloc]; omega)).trans ((World.cell?_alloc_old _ _ _ (by show B ≠ w.heap.size; omega)).trans h5)⟩
  go_enter Try.func26, Try.ntmps26
  go_wp2_with fail
  refine (l91Two_any a0 len cap _ hc HC1).mono ?_
  rintro e w1 ⟨a, b, rfl, hb⟩
  have HM0 := Lib.hid (HM0.out.below hb (by simp))
  have HM1 := Lib.hid (HM1.out.below hb (by simp))
  have HB := Lib.hid (show Below w.heap.size w w1 from HB.out.trans (hb.mono HB.out.size))
  clear hb HC1
  obtain ⟨y0_0, e0_0⟩ := Option.isSome_iff_exists.1 (HM0.out 0 (by omega)).1
  have f0_0 := (HM0.out 0 (by omega)).2
  obtain ⟨y0_1, e0_1⟩ := Option.isSome_iff_exists.1 (HM0.out 1 (by omega)).1
  have f0_1 := (HM0.out 1 (by omega)).2
  obtain ⟨y0_2, e0_2⟩ := Option.isSome_iff_exists.1 (HM0.out 2 (by omega)).1
  have f0_2 := (HM0.out 2 (by omega)).2
  obtain ⟨y0_3, e0_3⟩ := Option.isSome_iff_exists.1 (HM0.out 3 (by omega)).1
  have f0_3 := (HM0.out 3 (by omega)).2
  obtain ⟨y0_4, e0_4⟩ := Option.isSome_iff_exists.1 (HM0.out 4 (by omega)).1
  have f0_4 := (HM0.out 4 (by omega)).2
  obtain ⟨y0_5, e0_5⟩ := Option.isSome_iff_exists.1 (HM0.out 5 (by omega)).1
  have f0_5 := (HM0.out 5 (by omega)).2
  obtain ⟨y1_0, e1_0⟩ := Option.isSome_iff_exists.1 (HM1.out 0 (by omega)).1
  have f1_0 := (HM1.out 0 (by omega)).2
  obtain ⟨y1_1, e1_1⟩ := Option.isSome_iff_exists.1 (HM1.out 1 (by omega)).1
  have f1_1 := (HM1.out 1 (by omega)).2
  obtain ⟨y1_2, e1_2⟩ := Option.isSome_iff_exists.1 (HM1.out 2 (by omega)).1
  have f1_2 := (HM1.out 2 (by omega)).2
  obtain ⟨y1_3, e1_3⟩ := Option.isSome_iff_exists.1 (HM1.out 3 (by omega)).1
  have f1_3 := (HM1.out 3 (by omega)).2
  obtain ⟨y1_4, e1_4⟩ := Option.isSome_iff_exists.1 (HM1.out 4 (by omega)).1
  have f1_4 := (HM1.out 4 (by omega)).2
  obtain ⟨y1_5, e1_5⟩ := Option.isSome_iff_exists.1 (HM1.out 5 (by omega)).1
  have f1_5 := (HM1.out 5 (by omega)).2
  go_wp2
  refine bodyPost_ret (v := .tuple #[.agg #[.int .i64 a.x.re, .int .i64 a.x.im, .int .i64 a.x.den, .int .i64 a.y.re, .int .i64 a.y.im, .int .i64 a.y.den], .agg #[.int .i64 b.x.re, .int .i64 b.x.im, .int .i64 b.x.den, .int .i64 b.y.re, .int .i64 b.y.im, .int .i64 b.y.den]]) (by simp [results, Try.results26, go_sem, *]) rfl ⟨a, b, rfl, ?_⟩
  iterate 12 refine Below.setCell ?_ (by show _ ≤ _; first | exact Nat.le_refl _ | exact Nat.le_succ _) _
  exact HB.out
end Go.Proofs.Ytlmpbijhidnekaa
