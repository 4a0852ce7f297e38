/- Contracts: draws of two matrices, of a matrix and a fraction. -/
import Derived.Test.YtmcokdiopcpifaaDoorMsDM
import Derived.Test.YtmcokdiopcpifaaDoorMsK4
import Derived.Deep.DeepCutAuto
set_option maxRecDepth 100000
namespace Go.Proofs.YtmcokdiopcpifaaDoor
open Go.RowKit Pol
theorem BoxAt.far' {W : World} {X D o n : Nat} {g : Nat → Fr} {x : Value} (h : BoxAt W X g n) (hne : X ≠ D) : BoxAt (W.setCell ⟨D, o, none⟩ x) X g n := fun k hk => by
  have hh : ∀ q, (W.setCell ⟨D, o, none⟩ x).cell? ⟨X, q, none⟩ = W.cell? ⟨X, q, none⟩ := fun q => World.cell?_setCell_far _ _ _ _ (by show D ≠ X; omega)
  rw [hh, hh, hh]; exact h k hk
theorem Room.far' {W : World} {X n : Nat} (h : Room W X n) (p : Addr) (x : Value) : Room (W.setCell p x) X n := h.set p x
theorem BoxAt.q12 {W : World} {X : Nat} {m : M4} (h : BoxAt W X m.get 4) : W.cell? ⟨X, 0, none⟩ = some (.int .i64 m.a.re) ∧ W.cell? ⟨X, 1, none⟩ = some (.int .i64 m.a.im) ∧ W.cell? ⟨X, 2, none⟩ = some (.int .i64 m.a.den) ∧ W.cell? ⟨X, 3, none⟩ = some (.int .i64 m.b.re) ∧ W.cell? ⟨X, 4, none⟩ = some (.int .i64 m.b.im) ∧ W.cell? ⟨X, 5, none⟩ = some (.int .i64 m.b.den) ∧ W.cell? ⟨X, 6, none⟩ = some (.int .i64 m.c.re) ∧ W.cell? ⟨X, 7, none⟩ = some (.int .i64 m.c.im) ∧ W.cell? ⟨X, 8, none⟩ = some (.int .i64 m.c.den) ∧ W.cell? ⟨X, 9, none⟩ = some (.int .i64 m.d.re) ∧ W.cell? ⟨X, 10, none⟩ = some (.int .i64 m.d.im) ∧ W.cell? ⟨X, 11, none⟩ = some (.int .i64 m.d.den) :=
  ⟨(h 0 (by omega)).1, (h 0 (by omega)).2.1, (h 0 (by omega)).2.2, (h 1 (by omega)).1, (h 1 (by omega)).2.1, (h 1 (by omega)).2.2, (h 2 (by omega)).1, (h 2 (by omega)).2.1, (h 2 (by omega)).2.2, (h 3 (by omega)).1, (h 3 (by omega)).2.1, (h 3 (by omega)).2.2⟩
set_option maxHeartbeats 2000000 in
theorem box4 {W : World} {X : Nat} {m : M4} (r : Room W X 4) : BoxAt (((((((((((((W).setCell ⟨X, 0, none⟩ (.int .i64 m.a.re)).setCell ⟨X, 1, none⟩ (.int .i64 m.a.im)).setCell ⟨X, 2, none⟩ (.int .i64 m.a.den)).setCell ⟨X, 3, none⟩ (.int .i64 m.b.re)).setCell ⟨X, 4, none⟩ (.int .i64 m.b.im)).setCell ⟨X, 5, none⟩ (.int .i64 m.b.den)).setCell ⟨X, 6, none⟩ (.int .i64 m.c.re)).setCell ⟨X, 7, none⟩ (.int .i64 m.c.im)).setCell ⟨X, 8, none⟩ (.int .i64 m.c.den)).setCell ⟨X, 9, none⟩ (.int .i64 m.d.re)).setCell ⟨X, 10, none⟩ (.int .i64 m.d.im)).setCell ⟨X, 11, none⟩ (.int .i64 m.d.den)) X m.get 4 := by
  show BoxAt (putF (putF (putF (putF W X 0 (m.get 0)) X 1 (m.get 1)) X 2 (m.get 2)) X 3 (m.get 3)) X m.get 4
  exact   BoxAt.put (g := m.get) (k := 3) (BoxAt.put (g := m.get) (k := 2) (BoxAt.put (g := m.get) (k := 1) (BoxAt.put (g := m.get) (k := 0) (fun k hk => absurd hk (by omega)) r (by omega)) (r.put _ _ _) (by omega)) ((r.put _ _ _).put _ _ _) (by omega)) (((r.put _ _ _).put _ _ _).put _ _ _) (by omega)
theorem box1' {W : World} {X : Nat} {f : Fr} (r : Room W X 1) : BoxAt (((W.setCell ⟨X, 0, none⟩ (.int .i64 f.re)).setCell ⟨X, 1, none⟩ (.int .i64 f.im)).setCell ⟨X, 2, none⟩ (.int .i64 f.den)) X (fun _ => f) 1 :=
  BoxAt.put (g := fun _ => f) (k := 0) (fun k hk => absurd hk (by omega)) r (by omega)
theorem BoxAt.drewN' {W : World} {X n : Nat} {g : Nat → Fr} (h : BoxAt W X g n) : BoxAt W.drew X g n := h
theorem Rd.puts' {N R : Nat} {a0 : Option Addr} {len cap k : Nat} {w : World} {b o : Nat} {v : Value} (h : Rd N R a0 len cap k w) (hb : b < R ∧ N ≤ b) : Rd N R a0 len cap k (w.setCell ⟨b, o, none⟩ v) := by
  have hf : ∀ B q, B ≠ b → (w.setCell ⟨b, o, none⟩ v).cell? ⟨B, q, none⟩ = w.cell? ⟨B, q, none⟩ := fun B q hB => World.cell?_setCell_far _ _ _ _ (by show b ≠ B; omega)
  refine ⟨by rw [World.size_setCell]; exact h.lt, h.base, (hf _ _ (by omega)).trans h.slice, by obtain ⟨p, h1, h2⟩ := h.place; exact ⟨p, h1, (hf _ _ (by omega)).trans h2⟩, by rw [World.frozen?_setCell]; exact h.free, h.short, h.code.keep fun B q hB => hf B q (by omega)⟩
theorem Own.out2 {R : Nat} {W w1 : World} (h : Own R W w1) : ∃ B, B = W.heap.size ∧ (∀ k, k < B → k ≠ R → ∀ o, w1.cell? ⟨k, o, none⟩ = W.cell? ⟨k, o, none⟩) ∧ (∀ k, k < B → k ≠ R → ∀ o, w1.frozen? ⟨k, o, none⟩ = W.frozen? ⟨k, o, none⟩) :=
  ⟨_, rfl, fun _ hk hn o => h.cell hk hn o, fun _ hk hn o => h.frozen hk hn o⟩
def SSOut (w : World) (e : Ending) (w' : World) : Prop := ∃ a b : M4, e = .returned (.tuple #[.agg #[.int .i64 a.a.re, .int .i64 a.a.im, .int .i64 a.a.den, .int .i64 a.b.re, .int .i64 a.b.im, .int .i64 a.b.den, .int .i64 a.c.re, .int .i64 a.c.im, .int .i64 a.c.den, .int .i64 a.d.re, .int .i64 a.d.im, .int .i64 a.d.den], .agg #[.int .i64 b.a.re, .int .i64 b.a.im, .int .i64 b.a.den, .int .i64 b.b.re, .int .i64 b.b.im, .int .i64 b.b.den, .int .i64 b.c.re, .int .i64 b.c.im, .int .i64 b.c.den, .int .i64 b.d.re, .int .i64 b.d.im, .int .i64 b.d.den]]) ∧ Below w.heap.size w w'
def SFOut (w : World) (e : Ending) (w' : World) : Prop := ∃ (a : M4) (b : Fr), e = .returned (.tuple #[.agg #[.int .i64 a.a.re, .int .i64 a.a.im, .int .i64 a.a.den, .int .i64 a.b.re, .int .i64 a.b.im, .int .i64 a.b.den, .int .i64 a.c.re, .int .i64 a.c.im, .int .i64 a.c.den, .int .i64 a.d.re, .int .i64 a.d.im, .int .i64 a.d.den], .agg #[.int .i64 b.re, .int .i64 b.im, .int .i64 b.den]]) ∧ Below w.heap.size w w'
theorem l91Mat_v {N R : Nat} {a0 : Option Addr} {len cap k : Nat} {w : World} (hk : k ≤ 40000) (h : Rd N R a0 len cap k w) :
    Calls Tryd.prog 112 #[.pointer (some ⟨R, 0, none⟩)] w (RdOut M4P N R a0 len cap (k + 100) w) := l91Mat_any hk h
set_option maxRecDepth 100000 in
set_option maxHeartbeats 40000000 in
theorem DrawMatScale_any (a0 : Option Addr) (len cap : Nat) (w : World) (hc : len ≤ cap) (HC : Code w.heap.size w a0 len) :
    Calls Tryd.prog 56 #[.slice a0 len cap] w (SFOut w) := by
  have HM0 : Hid (Room ((w.alloc (.cells #[.int .i64 0, .int .i64 0, .int .i64 0, .int .i64 0, .int .i64 0, .int .i64 0, .int .i64 0, .int .i64 0, .int .i64 0, .int .i64 0, .int .i64 0, .int .i64 0] 41)).alloc (.cells #[.int .i64 0, .int .i64 0, .int .i64 0] 23)) w.heap.size 4) := by show Room _ _ _; exact (Room.new' rfl rfl).alloc (by simp) _
  have HM1 : Hid (Room ((w.alloc (.cells #[.int .i64 0, .int .i64 0, .int .i64 0, .int .i64 0, .int .i64 0, .int .i64 0, .int .i64 0, .int .i64 0, .int .i64 0, .int .i64 0, .int .i64 0, .int .i64 0] 41)).alloc (.cells #[.int .i64 0, .int .i64 0, .int .i64 0] 23)) (w.heap.size + 1) 1) := by show Room _ _ _; exact Room.new' (by simp) rfl
  have HB : Hid (Below w.heap.size w ((w.alloc (.cells #[.int .i64 0, .int .i64 0, .int .i64 0, .int .i64 0, .int .i64 0, .int .i64 0, .int .i64 0, .int .i64 0, .int .i64 0, .int .i64 0, .int .i64 0, .int .i64 0] 41)).alloc (.cells #[.int .i64 0, .int .i64 0, .int .i64 0] 23))) := by show Below _ _ _; (repeat' first | exact Below.refl _ _ | apply bl_alloc | apply bl_drewN | apply bl_drew | refine bl_trans ?_ (by assumption) | refine bl_set ?_ (by first | omega | (simp <;> omega)) _)
  have HC1 : Code w.heap.size ((w.alloc (.cells #[.int .i64 0, .int .i64 0, .int .i64 0, .int .i64 0, .int .i64 0, .int .i64 0, .int .i64 0, .int .i64 0, .int .i64 0, .int .i64 0, .int .i64 0, .int .i64 0] 41)).alloc (.cells #[.int .i64 0, .int .i64 0, .int .i64 0] 23)) a0 len := fun i hi => by
    obtain ⟨B, off, h1, h2, z, h3, h4, h5⟩ := HC i hi
    exact ⟨B, off, h1, h2, z, h3, h4, (World.cell?_alloc_old _ _ _ (by show B ≠ _; rw [World.size_alloc]; omega)).trans ((World.cell?_alloc_old _ _ _ (by show B ≠ w.heap.size; omega)).trans h5)⟩
  go_enter Tryd.func56, Tryd.ntmps56
  go_wp2_with fail
  refine (open_any w.heap.size a0 len cap _ (by simp) hc HC1).mono ?_
  rintro e w1 ⟨R, len', rfl, hb, hRb, hR⟩
  have HM0 := Lib.hid (HM0.out.below hb (by simp))
  have HM1 := Lib.hid (HM1.out.below hb (by simp))
  have HB := Lib.hid (show Below w.heap.size w w1 from HB.out.trans (hb.mono HB.out.size))
  have hz1 := hb.size
  (try simp at hz1)
  (try simp at hRb)
  have hRl := hR.lt
  clear hb
  go_wp2_with fail
  refine (l91Mat_v (by omega) hR).mono ?_
  rintro e w2 ⟨v, rfl, ⟨a, rfl⟩, hO, hR2⟩
  have hz2 := hO.size
  have HM0 := Lib.hid ((HM0.out.own hO (by omega) (by omega)).alloc (by omega) (.cells #[.int .i64 a.a.re, .int .i64 a.a.im, .int .i64 a.a.den, .int .i64 a.b.re, .int .i64 a.b.im, .int .i64 a.b.den, .int .i64 a.c.re, .int .i64 a.c.im, .int .i64 a.c.den, .int .i64 a.d.re, .int .i64 a.d.im, .int .i64 a.d.den] 41))
  have HM1 := Lib.hid ((HM1.out.own hO (by omega) (by omega)).alloc (by omega) (.cells #[.int .i64 a.a.re, .int .i64 a.a.im, .int .i64 a.a.den, .int .i64 a.b.re, .int .i64 a.b.im, .int .i64 a.b.den, .int .i64 a.c.re, .int .i64 a.c.im, .int .i64 a.c.den, .int .i64 a.d.re, .int .i64 a.d.im, .int .i64 a.d.den] 41))
  have HB := Lib.hid ((hO.mine HB.out (by omega)).alloc (by omega) (.cells #[.int .i64 a.a.re, .int .i64 a.a.im, .int .i64 a.a.den, .int .i64 a.b.re, .int .i64 a.b.im, .int .i64 a.b.den, .int .i64 a.c.re, .int .i64 a.c.im, .int .i64 a.c.den, .int .i64 a.d.re, .int .i64 a.d.im, .int .i64 a.d.den] 41))
  have HX : Hid (BoxAt (w2.alloc (.cells #[.int .i64 a.a.re, .int .i64 a.a.im, .int .i64 a.a.den, .int .i64 a.b.re, .int .i64 a.b.im, .int .i64 a.b.den, .int .i64 a.c.re, .int .i64 a.c.im, .int .i64 a.c.den, .int .i64 a.d.re, .int .i64 a.d.im, .int .i64 a.d.den] 41)) w2.heap.size a.get 4) := by show BoxAt _ _ _ _; exact BoxAt.new _ _ _ _ _ (src4 a)
  have HR := Lib.hid (hR2.alloc (.cells #[.int .i64 a.a.re, .int .i64 a.a.im, .int .i64 a.a.den, .int .i64 a.b.re, .int .i64 a.b.im, .int .i64 a.b.den, .int .i64 a.c.re, .int .i64 a.c.im, .int .i64 a.c.den, .int .i64 a.d.re, .int .i64 a.d.im, .int .i64 a.d.den] 41))
  clear hR hO hR2
  obtain ⟨V, hV⟩ : ∃ V, V = w2.alloc (.cells #[.int .i64 a.a.re, .int .i64 a.a.im, .int .i64 a.a.den, .int .i64 a.b.re, .int .i64 a.b.im, .int .i64 a.b.den, .int .i64 a.c.re, .int .i64 a.c.im, .int .i64 a.c.den, .int .i64 a.d.re, .int .i64 a.d.im, .int .i64 a.d.den] 41) := ⟨_, rfl⟩
  have hzV : V.heap.size = w2.heap.size + 1 := by rw [hV]; simp
  rw [← hV] at HM0 HM1 HB HX HR
  go_wp2
  rw [← hV]
  clear hV
  have nA : ¬ w2.heap.size = w.heap.size := by omega
  have nB : ¬ w2.heap.size = w.heap.size + 1 := by omega
  have nC : ¬ w.heap.size = w2.heap.size := by omega
  have nD : ¬ w.heap.size + 1 = w2.heap.size := by omega
  obtain ⟨y0_0, e0_0⟩ := Option.isSome_iff_exists.1 (HM0.out 0 (by omega)).1
  have f0_0 := (HM0.out 0 (by omega)).2
  obtain ⟨y0_1, e0_1⟩ := Option.isSome_iff_exists.1 (HM0.out 1 (by omega)).1
  have f0_1 := (HM0.out 1 (by omega)).2
  obtain ⟨y0_2, e0_2⟩ := Option.isSome_iff_exists.1 (HM0.out 2 (by omega)).1
  have f0_2 := (HM0.out 2 (by omega)).2
  obtain ⟨y0_3, e0_3⟩ := Option.isSome_iff_exists.1 (HM0.out 3 (by omega)).1
  have f0_3 := (HM0.out 3 (by omega)).2
  obtain ⟨y0_4, e0_4⟩ := Option.isSome_iff_exists.1 (HM0.out 4 (by omega)).1
  have f0_4 := (HM0.out 4 (by omega)).2
  obtain ⟨y0_5, e0_5⟩ := Option.isSome_iff_exists.1 (HM0.out 5 (by omega)).1
  have f0_5 := (HM0.out 5 (by omega)).2
  obtain ⟨y0_6, e0_6⟩ := Option.isSome_iff_exists.1 (HM0.out 6 (by omega)).1
  have f0_6 := (HM0.out 6 (by omega)).2
  obtain ⟨y0_7, e0_7⟩ := Option.isSome_iff_exists.1 (HM0.out 7 (by omega)).1
  have f0_7 := (HM0.out 7 (by omega)).2
  obtain ⟨y0_8, e0_8⟩ := Option.isSome_iff_exists.1 (HM0.out 8 (by omega)).1
  have f0_8 := (HM0.out 8 (by omega)).2
  obtain ⟨y0_9, e0_9⟩ := Option.isSome_iff_exists.1 (HM0.out 9 (by omega)).1
  have f0_9 := (HM0.out 9 (by omega)).2
  obtain ⟨y0_10, e0_10⟩ := Option.isSome_iff_exists.1 (HM0.out 10 (by omega)).1
  have f0_10 := (HM0.out 10 (by omega)).2
  obtain ⟨y0_11, e0_11⟩ := Option.isSome_iff_exists.1 (HM0.out 11 (by omega)).1
  have f0_11 := (HM0.out 11 (by omega)).2
  obtain ⟨y1_0, e1_0⟩ := Option.isSome_iff_exists.1 (HM1.out 0 (by omega)).1
  have f1_0 := (HM1.out 0 (by omega)).2
  obtain ⟨y1_1, e1_1⟩ := Option.isSome_iff_exists.1 (HM1.out 1 (by omega)).1
  have f1_1 := (HM1.out 1 (by omega)).2
  obtain ⟨y1_2, e1_2⟩ := Option.isSome_iff_exists.1 (HM1.out 2 (by omega)).1
  have f1_2 := (HM1.out 2 (by omega)).2
  go_cut [] (fun wx => ∃ b : Fr, Below w.heap.size w wx ∧ BoxAt wx w.heap.size a.get 4 ∧ BoxAt wx (w.heap.size + 1) (fun _ => b) 1)
  case first =>
    go_region_held3 (fun w' => w'.cell? ⟨w2.heap.size, 0, none⟩ = some (.int .i64 a.a.re) ∧ w'.cell? ⟨w2.heap.size, 1, none⟩ = some (.int .i64 a.a.im) ∧ w'.cell? ⟨w2.heap.size, 2, none⟩ = some (.int .i64 a.a.den) ∧ w'.cell? ⟨w2.heap.size, 3, none⟩ = some (.int .i64 a.b.re) ∧ w'.cell? ⟨w2.heap.size, 4, none⟩ = some (.int .i64 a.b.im) ∧ w'.cell? ⟨w2.heap.size, 5, none⟩ = some (.int .i64 a.b.den) ∧ w'.cell? ⟨w2.heap.size, 6, none⟩ = some (.int .i64 a.c.re) ∧ w'.cell? ⟨w2.heap.size, 7, none⟩ = some (.int .i64 a.c.im) ∧ w'.cell? ⟨w2.heap.size, 8, none⟩ = some (.int .i64 a.c.den) ∧ w'.cell? ⟨w2.heap.size, 9, none⟩ = some (.int .i64 a.d.re) ∧ w'.cell? ⟨w2.heap.size, 10, none⟩ = some (.int .i64 a.d.im) ∧ w'.cell? ⟨w2.heap.size, 11, none⟩ = some (.int .i64 a.d.den)) (((try dsimp only); (with_reducible refine BoxAt.q12 ?_); (focus ((repeat' first | (with_reducible exact HX.out) | (with_reducible refine BoxAt.drewN' ?_) | (with_reducible refine BoxAt.far' ?_ ?_; rotate_left; (focus (first | omega | (simp <;> omega)))) | (with_reducible refine BoxAt.own ?_ HS1.out ?_ ?_; rotate_left; (focus (first | omega | (simp <;> omega))); (focus (first | omega | (simp <;> omega))))); done)))) (first | (go_at_call 84; (with_reducible refine Calls.mono (l91Frac_any (N := w.heap.size) (R := R) (a0 := a0) (len := len') (cap := cap) (k := 0 + 100) (Nat.le_of_ble_eq_true rfl) ?_) ?_); (focus ((repeat' first | (with_reducible exact HR.out) | (with_reducible refine Rd.drew ?_) | (with_reducible refine Rd.puts' ?_ ?_; rotate_left; (focus (first | omega | (simp <;> omega))))); done)); rintro e w5 ⟨v, rfl, ⟨b, rfl⟩, hO, hR⟩; have HS1 := Lib.hid hO; have hz5 := hO.size; (try simp at hz5); obtain ⟨BB, hBB, hcc, hff⟩ := hO.out2; (try simp at hBB); (first | (rcases Nat.lt_or_ge (w.heap.size) BB with hlt | hlt; rotate_left; (exfalso; omega); have yc := hcc (w.heap.size) hlt (by omega); have yf := hff (w.heap.size) hlt (by omega); clear hlt) | skip); (first | (rcases Nat.lt_or_ge (w.heap.size + 1) BB with hlt | hlt; rotate_left; (exfalso; omega); have yc := hcc (w.heap.size + 1) hlt (by omega); have yf := hff (w.heap.size + 1) hlt (by omega); clear hlt) | skip); (first | (rcases Nat.lt_or_ge (w2.heap.size) BB with hlt | hlt; rotate_left; (exfalso; omega); have yc := hcc (w2.heap.size) hlt (by omega); have yf := hff (w2.heap.size) hlt (by omega); clear hlt) | skip); clear hBB hcc hff hO hR))
    all_goals (go_wp2_with fail; go_meet)
    have r0 : Room w5 w.heap.size 4 := (show Room V.drew _ _ from HM0.out).own HS1.out (by show _ < V.heap.size; omega) (by omega)
    have r1 : Room w5 (w.heap.size + 1) 1 := (show Room V.drew _ _ from HM1.out).own HS1.out (by show _ < V.heap.size; omega) (by omega)
    have hB5 : Below w.heap.size w w5 := Own.mine HS1.out (show Below _ _ V.drew from HB.out.drew) (by omega)
    refine ⟨b, ?_, ?_, ?_⟩
    · iterate 15 refine Below.setCell ?_ (by show _ ≤ _; first | exact Nat.le_refl _ | exact Nat.le_succ _) _
      exact hB5
    · iterate 3 refine BoxAt.far' ?_ (by omega)
      exact box4 r0
    · refine box1' ?_
      iterate 12 refine Room.far' ?_ _ _
      exact r1
  case rest =>
  obtain ⟨b, hB, h0, h1⟩ := hcut
  have k0 := h0.q12
  have k1 := (h1 0 (by omega))
  go_wp2
  refine bodyPost_ret (v := .tuple #[.agg #[.int .i64 a.a.re, .int .i64 a.a.im, .int .i64 a.a.den, .int .i64 a.b.re, .int .i64 a.b.im, .int .i64 a.b.den, .int .i64 a.c.re, .int .i64 a.c.im, .int .i64 a.c.den, .int .i64 a.d.re, .int .i64 a.d.im, .int .i64 a.d.den], .agg #[.int .i64 b.re, .int .i64 b.im, .int .i64 b.den]]) (by simp [results, Tryd.results56, go_sem, *]) rfl ⟨a, b, rfl, hB⟩
end Go.Proofs.YtmcokdiopcpifaaDoor
