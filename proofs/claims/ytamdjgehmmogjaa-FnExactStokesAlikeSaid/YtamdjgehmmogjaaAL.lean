/- Contracts of the reference: alike light. -/
import Derived.Test.YtamdjgehmmogjaaY
import Derived.Test.YtamdjgehmmogjaaK4
import Derived.Test.YtamdjgehmmogjaaK
import Derived.Test.YtamdjgehmmogjaaS3
import Derived.Test.YtamdjgehmmogjaaAB
set_option maxRecDepth 100000
namespace Go.Proofs.Ytamdjgehmmogjaa
open Go.RowKit Pol

theorem BoxAt.drew' {w : World} {N n : Nat} {g : Nat → Fr} (h : BoxAt w N g n) : BoxAt w.drew N g n := h
/-- Where the two loops stand. -/
structure ARel (W : World) (A B : Nat) (a b : M4) (i k : Nat) (wr : World) : Prop where
  le : i ≤ 4
  lk : k ≤ i
  below : Below W.heap.size W wr
  hA : A < wr.heap.size
  hB : B < wr.heap.size
  one : BoxAt wr A a.get 4
  two : BoxAt wr B b.get 4
  good : ∀ p q, q < p → (p < i ∨ (p = i ∧ q < k)) → gpB a b p q = true
def AO (W : World) (A B : Nat) (a b : M4) (v : Value) (wr : World) : Prop := ∃ i : Nat, v = .int .i64 i ∧ ARel W A B a b i 0 wr
def AI (W : World) (A B : Nat) (a b : M4) (i : Nat) (v : Value) (wr : World) : Prop := ∃ k : Nat, v = .int .i64 k ∧ ARel W A B a b i k wr
theorem ARel.next {W wr w1 : World} {A B : Nat} {a b : M4} {i k : Nat} (h : ARel W A B a b i k wr) (hb : Below wr.heap.size wr w1) : ARel W A B a b i k w1 :=
  ⟨h.le, h.lk, h.below.trans (hb.mono h.below.size), Nat.lt_of_lt_of_le h.hA hb.size, Nat.lt_of_lt_of_le h.hB hb.size, h.one.below hb h.hA, h.two.below hb h.hB, h.good⟩
theorem ARel.alloc {W wr : World} {A B : Nat} {a b : M4} {i k : Nat} (h : ARel W A B a b i k wr) (x : Obj) : ARel W A B a b i k (wr.alloc x) := h.next ((Below.refl _ _).alloc (Nat.le_refl _) x)
theorem ARel.drew {W wr : World} {A B : Nat} {a b : M4} {i k : Nat} (h : ARel W A B a b i k wr) : ARel W A B a b i k wr.drew := h.next (Below.refl _ _).drew
theorem ARel.other {W wr : World} {A B : Nat} {a b : M4} {i k : Nat} (h : ARel W A B a b i k wr) {X : Nat} (h1 : X ≠ A) (h2 : X ≠ B) (h3 : W.heap.size ≤ X) (g : Fr) : ARel W A B a b i k (putF wr X 0 g) :=
  ⟨h.le, h.lk, ((h.below.setCell h3 _).setCell h3 _).setCell h3 _, by rw [putF_size]; exact h.hA, by rw [putF_size]; exact h.hB, h.one.put_other h1 0 g, h.two.put_other h2 0 g, h.good⟩
theorem ARel.step {W wr : World} {A B : Nat} {a b : M4} {i k : Nat} (h : ARel W A B a b i k wr) (hk : k < i) (hg : gpB a b i k = true) : ARel W A B a b i (k + 1) wr :=
  ⟨h.le, hk, h.below, h.hA, h.hB, h.one, h.two, fun p q hq hp => by
    rcases hp with hp | ⟨rfl, hp⟩
    · exact h.good p q hq (Or.inl hp)
    · rcases Nat.lt_or_ge q k with h1 | h1
      · exact h.good p q hq (Or.inr ⟨rfl, h1⟩)
      · obtain rfl : q = k := by omega
        exact hg⟩
theorem ARel.row {W wr : World} {A B : Nat} {a b : M4} {i : Nat} (h : ARel W A B a b i i wr) (hi : i < 4) : ARel W A B a b (i + 1) 0 wr :=
  ⟨hi, Nat.zero_le _, h.below, h.hA, h.hB, h.one, h.two, fun p q hq hp => by
    rcases hp with hp | ⟨_, hp⟩
    · rcases Nat.lt_or_ge p i with h1 | h1
      · exact h.good p q hq (Or.inl h1)
      · obtain rfl : p = i := by omega
        exact h.good p q hq (Or.inr ⟨rfl, hq⟩)
    · omega⟩
set_option maxRecDepth 100000 in
set_option maxHeartbeats 40000000 in
theorem salike_any (a b : M4) (w : World) (h1 : all4 realB a = true) (h2 : all4 realB b = true) (h3 : sgn a.a.re = sgn b.a.re) :
    Calls Try.prog 13 #[.agg #[.int .i64 a.a.re, .int .i64 a.a.im, .int .i64 a.a.den, .int .i64 a.b.re, .int .i64 a.b.im, .int .i64 a.b.den, .int .i64 a.c.re, .int .i64 a.c.im, .int .i64 a.c.den, .int .i64 a.d.re, .int .i64 a.d.im, .int .i64 a.d.den], .agg #[.int .i64 b.a.re, .int .i64 b.a.im, .int .i64 b.a.den, .int .i64 b.b.re, .int .i64 b.b.im, .int .i64 b.b.den, .int .i64 b.c.re, .int .i64 b.c.im, .int .i64 b.c.den, .int .i64 b.d.re, .int .i64 b.d.im, .int .i64 b.d.den]] w (fun e w' => e = .returned (.bool (alB a b)) ∧ Below w.heap.size w w') := by
  have z3 : (sgn a.a.re == sgn b.a.re) = true := by simp [h3]
  have z4 : (sgn a.a.re != sgn b.a.re) = false := by simp [h3]
  clear h3
  go_enter Try.func13, Try.ntmps13
  have K0 : Ctx w (w.heap.size) (w.heap.size + 1) (w.heap.size) [.int .i64 a.a.re, .int .i64 a.a.im, .int .i64 a.a.den, .int .i64 a.b.re, .int .i64 a.b.im, .int .i64 a.b.den, .int .i64 a.c.re, .int .i64 a.c.im, .int .i64 a.c.den, .int .i64 a.d.re, .int .i64 a.d.im, .int .i64 a.d.den] [.int .i64 b.a.re, .int .i64 b.a.im, .int .i64 b.a.den, .int .i64 b.b.re, .int .i64 b.b.im, .int .i64 b.b.den, .int .i64 b.c.re, .int .i64 b.c.im, .int .i64 b.c.den, .int .i64 b.d.re, .int .i64 b.d.im, .int .i64 b.d.den] [.int .i64 a.a.re, .int .i64 a.a.im, .int .i64 a.a.den, .int .i64 a.b.re, .int .i64 a.b.im, .int .i64 a.b.den, .int .i64 a.c.re, .int .i64 a.c.im, .int .i64 a.c.den, .int .i64 a.d.re, .int .i64 a.d.im, .int .i64 a.d.den] ((w.alloc (.cells #[.int .i64 a.a.re, .int .i64 a.a.im, .int .i64 a.a.den, .int .i64 a.b.re, .int .i64 a.b.im, .int .i64 a.b.den, .int .i64 a.c.re, .int .i64 a.c.im, .int .i64 a.c.den, .int .i64 a.d.re, .int .i64 a.d.im, .int .i64 a.d.den] 42)).alloc (.cells #[.int .i64 b.a.re, .int .i64 b.a.im, .int .i64 b.a.den, .int .i64 b.b.re, .int .i64 b.b.im, .int .i64 b.b.den, .int .i64 b.c.re, .int .i64 b.c.im, .int .i64 b.c.den, .int .i64 b.d.re, .int .i64 b.d.im, .int .i64 b.d.den] 42)) := by
    have r1 : ((w.alloc (.cells #[.int .i64 a.a.re, .int .i64 a.a.im, .int .i64 a.a.den, .int .i64 a.b.re, .int .i64 a.b.im, .int .i64 a.b.den, .int .i64 a.c.re, .int .i64 a.c.im, .int .i64 a.c.den, .int .i64 a.d.re, .int .i64 a.d.im, .int .i64 a.d.den] 42)).alloc (.cells #[.int .i64 b.a.re, .int .i64 b.a.im, .int .i64 b.a.den, .int .i64 b.b.re, .int .i64 b.b.im, .int .i64 b.b.den, .int .i64 b.c.re, .int .i64 b.c.im, .int .i64 b.c.den, .int .i64 b.d.re, .int .i64 b.d.im, .int .i64 b.d.den] 42)).rangeAt (w.heap.size) 0 [.int .i64 a.a.re, .int .i64 a.a.im, .int .i64 a.a.den, .int .i64 a.b.re, .int .i64 a.b.im, .int .i64 a.b.den, .int .i64 a.c.re, .int .i64 a.c.im, .int .i64 a.c.den, .int .i64 a.d.re, .int .i64 a.d.im, .int .i64 a.d.den] := World.rangeAt_alloc (rangeAt_new _ _ _) _
    have r2 : ((w.alloc (.cells #[.int .i64 a.a.re, .int .i64 a.a.im, .int .i64 a.a.den, .int .i64 a.b.re, .int .i64 a.b.im, .int .i64 a.b.den, .int .i64 a.c.re, .int .i64 a.c.im, .int .i64 a.c.den, .int .i64 a.d.re, .int .i64 a.d.im, .int .i64 a.d.den] 42)).alloc (.cells #[.int .i64 b.a.re, .int .i64 b.a.im, .int .i64 b.a.den, .int .i64 b.b.re, .int .i64 b.b.im, .int .i64 b.b.den, .int .i64 b.c.re, .int .i64 b.c.im, .int .i64 b.c.den, .int .i64 b.d.re, .int .i64 b.d.im, .int .i64 b.d.den] 42)).rangeAt (w.heap.size + 1) 0 [.int .i64 b.a.re, .int .i64 b.a.im, .int .i64 b.a.den, .int .i64 b.b.re, .int .i64 b.b.im, .int .i64 b.b.den, .int .i64 b.c.re, .int .i64 b.c.im, .int .i64 b.c.den, .int .i64 b.d.re, .int .i64 b.d.im, .int .i64 b.d.den] := by have := rangeAt_new (w.alloc (.cells #[.int .i64 a.a.re, .int .i64 a.a.im, .int .i64 a.a.den, .int .i64 a.b.re, .int .i64 a.b.im, .int .i64 a.b.den, .int .i64 a.c.re, .int .i64 a.c.im, .int .i64 a.c.den, .int .i64 a.d.re, .int .i64 a.d.im, .int .i64 a.d.den] 42)) [.int .i64 b.a.re, .int .i64 b.a.im, .int .i64 b.a.den, .int .i64 b.b.re, .int .i64 b.b.im, .int .i64 b.b.den, .int .i64 b.c.re, .int .i64 b.c.im, .int .i64 b.c.den, .int .i64 b.d.re, .int .i64 b.d.im, .int .i64 b.d.den] 42; rwa [World.size_alloc] at this
    exact ⟨by (repeat' first | exact Below.refl _ _ | apply bl_alloc | apply bl_drewN | apply bl_drew | refine bl_trans ?_ (by assumption) | refine bl_set ?_ (by first | omega | (simp <;> omega)) _), by simp, by simp, by simp, r1, r2, r1⟩
  have KH := Lib.hid K0; clear K0
  have HX : Hid (BoxAt ((w.alloc (.cells #[.int .i64 a.a.re, .int .i64 a.a.im, .int .i64 a.a.den, .int .i64 a.b.re, .int .i64 a.b.im, .int .i64 a.b.den, .int .i64 a.c.re, .int .i64 a.c.im, .int .i64 a.c.den, .int .i64 a.d.re, .int .i64 a.d.im, .int .i64 a.d.den] 42)).alloc (.cells #[.int .i64 b.a.re, .int .i64 b.a.im, .int .i64 b.a.den, .int .i64 b.b.re, .int .i64 b.b.im, .int .i64 b.b.den, .int .i64 b.c.re, .int .i64 b.c.im, .int .i64 b.c.den, .int .i64 b.d.re, .int .i64 b.d.im, .int .i64 b.d.den] 42)) (w.heap.size) a.get 4) := by
    show BoxAt _ _ _ _
    exact (BoxAt.new _ _ _ _ _ (srcY a)).alloc (by simp) _
  have HY : Hid (BoxAt ((w.alloc (.cells #[.int .i64 a.a.re, .int .i64 a.a.im, .int .i64 a.a.den, .int .i64 a.b.re, .int .i64 a.b.im, .int .i64 a.b.den, .int .i64 a.c.re, .int .i64 a.c.im, .int .i64 a.c.den, .int .i64 a.d.re, .int .i64 a.d.im, .int .i64 a.d.den] 42)).alloc (.cells #[.int .i64 b.a.re, .int .i64 b.a.im, .int .i64 b.a.den, .int .i64 b.b.re, .int .i64 b.b.im, .int .i64 b.b.den, .int .i64 b.c.re, .int .i64 b.c.im, .int .i64 b.c.den, .int .i64 b.d.re, .int .i64 b.d.im, .int .i64 b.d.den] 42)) (w.heap.size + 1) b.get 4) := by
    show BoxAt _ _ _ _
    exact BoxAt.new' (by simp) (srcY b)
  go_wp2
  go_region_held3 (fun w' => (w'.cell? ⟨w.heap.size, 0, none⟩ = some (.int .i64 a.a.re) ∧ w'.cell? ⟨w.heap.size, 1, none⟩ = some (.int .i64 a.a.im) ∧ w'.cell? ⟨w.heap.size, 2, none⟩ = some (.int .i64 a.a.den) ∧ w'.cell? ⟨w.heap.size, 3, none⟩ = some (.int .i64 a.b.re) ∧ w'.cell? ⟨w.heap.size, 4, none⟩ = some (.int .i64 a.b.im) ∧ w'.cell? ⟨w.heap.size, 5, none⟩ = some (.int .i64 a.b.den) ∧ w'.cell? ⟨w.heap.size, 6, none⟩ = some (.int .i64 a.c.re) ∧ w'.cell? ⟨w.heap.size, 7, none⟩ = some (.int .i64 a.c.im) ∧ w'.cell? ⟨w.heap.size, 8, none⟩ = some (.int .i64 a.c.den) ∧ w'.cell? ⟨w.heap.size, 9, none⟩ = some (.int .i64 a.d.re) ∧ w'.cell? ⟨w.heap.size, 10, none⟩ = some (.int .i64 a.d.im) ∧ w'.cell? ⟨w.heap.size, 11, none⟩ = some (.int .i64 a.d.den)) ∧ (w'.cell? ⟨w.heap.size + 1, 0, none⟩ = some (.int .i64 b.a.re) ∧ w'.cell? ⟨w.heap.size + 1, 1, none⟩ = some (.int .i64 b.a.im) ∧ w'.cell? ⟨w.heap.size + 1, 2, none⟩ = some (.int .i64 b.a.den) ∧ w'.cell? ⟨w.heap.size + 1, 3, none⟩ = some (.int .i64 b.b.re) ∧ w'.cell? ⟨w.heap.size + 1, 4, none⟩ = some (.int .i64 b.b.im) ∧ w'.cell? ⟨w.heap.size + 1, 5, none⟩ = some (.int .i64 b.b.den) ∧ w'.cell? ⟨w.heap.size + 1, 6, none⟩ = some (.int .i64 b.c.re) ∧ w'.cell? ⟨w.heap.size + 1, 7, none⟩ = some (.int .i64 b.c.im) ∧ w'.cell? ⟨w.heap.size + 1, 8, none⟩ = some (.int .i64 b.c.den) ∧ w'.cell? ⟨w.heap.size + 1, 9, none⟩ = some (.int .i64 b.d.re) ∧ w'.cell? ⟨w.heap.size + 1, 10, none⟩ = some (.int .i64 b.d.im) ∧ w'.cell? ⟨w.heap.size + 1, 11, none⟩ = some (.int .i64 b.d.den))) (((try dsimp only); (first | (with_reducible exact ⟨cells12 KH.out.drew.a, cells12 KH.out.drew.c⟩) | (with_reducible exact ⟨cells12 K1.out.a, cells12 K1.out.c⟩) | (with_reducible exact ⟨cells12 K2.out.a, cells12 K2.out.c⟩) | (with_reducible exact ⟨cells12 K3.out.a, cells12 K3.out.c⟩) | (with_reducible exact ⟨cells12 K4.out.a, cells12 K4.out.c⟩)))) (first
    | (go_at_call 36; (with_reducible refine (sstokesvalid_any a _).mono ?_); rintro e w1 ⟨rfl, hb⟩; have HX := Lib.hid ((BoxAt.drew' HX.out).below hb (KH.out.drew.hA)); have HY := Lib.hid ((BoxAt.drew' HY.out).below hb (KH.out.drew.hC)); have K1 := Lib.hid (KH.out.drew.next hb); clear hb; rw [h1])
    | (go_at_call 36; (with_reducible refine (sstokesvalid_any b _).mono ?_); rintro e w2 ⟨rfl, hb⟩; have HX := Lib.hid (HX.out.below hb (K1.out.hA)); have HY := Lib.hid (HY.out.below hb (K1.out.hC)); have K2 := Lib.hid (K1.out.next hb); clear hb; rw [h2])
    | (go_at_call 37; (with_reducible refine (sgn_any a.a.re _).mono ?_); rintro e w3 ⟨rfl, hb⟩; have HX := Lib.hid (HX.out.below hb (K2.out.hA)); have HY := Lib.hid (HY.out.below hb (K2.out.hC)); have K3 := Lib.hid (K2.out.next hb); clear hb)
    | (go_at_call 37; (with_reducible refine (sgn_any b.a.re _).mono ?_); rintro e w4 ⟨rfl, hb⟩; have HX := Lib.hid (HX.out.below hb (K3.out.hA)); have HY := Lib.hid (HY.out.below hb (K3.out.hC)); have K4 := Lib.hid (K3.out.next hb); clear hb))
  go_wp2
  have HT0 : Hid (ARel w (w.heap.size) (w.heap.size + 1) a b 0 0 w4) := ⟨by omega, by omega, K4.out.below, K4.out.hA, K4.out.hC, HX.out, HY.out, fun p q hq hp => by omega⟩
  clear KH K1 K2 K3 K4 HX HY z3 z4
  go_loopw [5] (fun v wr => AO w (w.heap.size) (w.heap.size + 1) a b v wr) (fun v _ => (4 - intOf v).toNat)
  case atStart => exact ⟨0, rfl, HT0.out⟩
  case round =>
    obtain ⟨i, rfl, hT⟩ := hrel
    clear HT0
    by_cases h4 : i < 4
    · have j0 : (0 : Int) ≤ (i : Int) := by omega
      have j1 : (i : Int) < 4 := by omega
      have HT := Lib.hid hT
      clear hT
      go_wp2
      go_loopw [6] (fun v wr => AI w (w.heap.size) (w.heap.size + 1) a b i v wr) (fun v _ => ((i : Int) - intOf v).toNat)
      case atStart => exact ⟨0, rfl, HT.out⟩
      case round =>
        obtain ⟨k, rfl, hT⟩ := hrel
        clear HT
        by_cases hk : k < i
        · have i0 : (0 : Int) ≤ (k : Int) := by omega
          have i1 : (k : Int) < (i : Int) := by omega
          have i2 : (k : Int) < 4 := by omega
          have HT := Lib.hid hT
          clear hT
          have hsA := HT.out.hA
          have hsB := HT.out.hB
          have b0 : wr.drew.cell? ⟨w.heap.size, i * 3, none⟩ = some (.int .i64 (a.get i).re) := (HT.out.one i (by omega)).1
          have p0 : ∀ z, (wr.alloc z).drew.cell? ⟨w.heap.size, i * 3, none⟩ = some (.int .i64 (a.get i).re) := fun z => (World.cell?_alloc_old _ _ _ (show w.heap.size ≠ wr.heap.size by omega)).trans b0
          have b1 : wr.drew.cell? ⟨w.heap.size, i * 3 + 1, none⟩ = some (.int .i64 (a.get i).im) := (HT.out.one i (by omega)).2.1
          have p1 : ∀ z, (wr.alloc z).drew.cell? ⟨w.heap.size, i * 3 + 1, none⟩ = some (.int .i64 (a.get i).im) := fun z => (World.cell?_alloc_old _ _ _ (show w.heap.size ≠ wr.heap.size by omega)).trans b1
          have b2 : wr.drew.cell? ⟨w.heap.size, i * 3 + 2, none⟩ = some (.int .i64 (a.get i).den) := (HT.out.one i (by omega)).2.2
          have p2 : ∀ z, (wr.alloc z).drew.cell? ⟨w.heap.size, i * 3 + 2, none⟩ = some (.int .i64 (a.get i).den) := fun z => (World.cell?_alloc_old _ _ _ (show w.heap.size ≠ wr.heap.size by omega)).trans b2
          have b3 : wr.drew.cell? ⟨w.heap.size + 1, k * 3, none⟩ = some (.int .i64 (b.get k).re) := (HT.out.two k (by omega)).1
          have p3 : ∀ z, (wr.alloc z).drew.cell? ⟨w.heap.size + 1, k * 3, none⟩ = some (.int .i64 (b.get k).re) := fun z => (World.cell?_alloc_old _ _ _ (show w.heap.size + 1 ≠ wr.heap.size by omega)).trans b3
          have b4 : wr.drew.cell? ⟨w.heap.size + 1, k * 3 + 1, none⟩ = some (.int .i64 (b.get k).im) := (HT.out.two k (by omega)).2.1
          have p4 : ∀ z, (wr.alloc z).drew.cell? ⟨w.heap.size + 1, k * 3 + 1, none⟩ = some (.int .i64 (b.get k).im) := fun z => (World.cell?_alloc_old _ _ _ (show w.heap.size + 1 ≠ wr.heap.size by omega)).trans b4
          have b5 : wr.drew.cell? ⟨w.heap.size + 1, k * 3 + 2, none⟩ = some (.int .i64 (b.get k).den) := (HT.out.two k (by omega)).2.2
          have p5 : ∀ z, (wr.alloc z).drew.cell? ⟨w.heap.size + 1, k * 3 + 2, none⟩ = some (.int .i64 (b.get k).den) := fun z => (World.cell?_alloc_old _ _ _ (show w.heap.size + 1 ≠ wr.heap.size by omega)).trans b5
          go_wp2
          go_region_held3 (fun w' => w'.cell? ⟨w.heap.size, i * 3, none⟩ = some (.int .i64 (a.get i).re) ∧ w'.cell? ⟨w.heap.size, i * 3 + 1, none⟩ = some (.int .i64 (a.get i).im) ∧ w'.cell? ⟨w.heap.size, i * 3 + 2, none⟩ = some (.int .i64 (a.get i).den) ∧ w'.cell? ⟨w.heap.size + 1, k * 3, none⟩ = some (.int .i64 (b.get k).re) ∧ w'.cell? ⟨w.heap.size + 1, k * 3 + 1, none⟩ = some (.int .i64 (b.get k).im) ∧ w'.cell? ⟨w.heap.size + 1, k * 3 + 2, none⟩ = some (.int .i64 (b.get k).den)) (((try dsimp only); (first | (with_reducible exact ⟨b0, b1, b2, b3, b4, b5⟩) | (with_reducible exact ⟨p0 _, p1 _, p2 _, p3 _, p4 _, p5 _⟩) | (with_reducible exact ⟨q0, q1, q2, q3, q4, q5⟩) | (with_reducible exact ⟨r0 _, r1 _, r2 _, r3 _, r4 _, r5 _⟩) | (with_reducible exact ⟨s0 _ _ _, s1 _ _ _, s2 _ _ _, s3 _ _ _, s4 _ _ _, s5 _ _ _⟩)))) (first | (go_at_call 38; (with_reducible refine (sptimes_fr (a.get i) (b.get k) wr.drew).mono ?_); rintro e w5 ho; obtain ⟨rfl, hb⟩ := ho.fn; have HT := Lib.hid (HT.out.drew.next hb); have hzw5 : wr.heap.size ≤ w5.heap.size := (by have := hb.size; simpa using this); have q0 : w5.cell? ⟨w.heap.size, i * 3, none⟩ = some (.int .i64 (a.get i).re) := (hb.cell (p := ⟨w.heap.size, i * 3, none⟩) (by show w.heap.size < _; first | omega | (simp <;> omega))).trans (b0); have r0 := fun z => (World.cell?_alloc_old _ z _ (show w.heap.size ≠ w5.heap.size by omega)).trans q0; have q1 : w5.cell? ⟨w.heap.size, i * 3 + 1, none⟩ = some (.int .i64 (a.get i).im) := (hb.cell (p := ⟨w.heap.size, i * 3 + 1, none⟩) (by show w.heap.size < _; first | omega | (simp <;> omega))).trans (b1); have r1 := fun z => (World.cell?_alloc_old _ z _ (show w.heap.size ≠ w5.heap.size by omega)).trans q1; have q2 : w5.cell? ⟨w.heap.size, i * 3 + 2, none⟩ = some (.int .i64 (a.get i).den) := (hb.cell (p := ⟨w.heap.size, i * 3 + 2, none⟩) (by show w.heap.size < _; first | omega | (simp <;> omega))).trans (b2); have r2 := fun z => (World.cell?_alloc_old _ z _ (show w.heap.size ≠ w5.heap.size by omega)).trans q2; have q3 : w5.cell? ⟨w.heap.size + 1, k * 3, none⟩ = some (.int .i64 (b.get k).re) := (hb.cell (p := ⟨w.heap.size + 1, k * 3, none⟩) (by show w.heap.size + 1 < _; first | omega | (simp <;> omega))).trans (b3); have r3 := fun z => (World.cell?_alloc_old _ z _ (show w.heap.size + 1 ≠ w5.heap.size by omega)).trans q3; have q4 : w5.cell? ⟨w.heap.size + 1, k * 3 + 1, none⟩ = some (.int .i64 (b.get k).im) := (hb.cell (p := ⟨w.heap.size + 1, k * 3 + 1, none⟩) (by show w.heap.size + 1 < _; first | omega | (simp <;> omega))).trans (b4); have r4 := fun z => (World.cell?_alloc_old _ z _ (show w.heap.size + 1 ≠ w5.heap.size by omega)).trans q4; have q5 : w5.cell? ⟨w.heap.size + 1, k * 3 + 2, none⟩ = some (.int .i64 (b.get k).den) := (hb.cell (p := ⟨w.heap.size + 1, k * 3 + 2, none⟩) (by show w.heap.size + 1 < _; first | omega | (simp <;> omega))).trans (b5); have r5 := fun z => (World.cell?_alloc_old _ z _ (show w.heap.size + 1 ≠ w5.heap.size by omega)).trans q5; clear ho hb) | (go_at_call 38; (with_reducible refine (sptimes_fr (a.get i) (b.get k) (World.drew (wr.alloc _))).mono ?_); rintro e w5 ho; obtain ⟨rfl, hb⟩ := ho.fn; have HT := Lib.hid ((HT.out.alloc _).drew.next hb); have hzw5 : wr.heap.size + 1 ≤ w5.heap.size := (by have := hb.size; simpa using this); have q0 : w5.cell? ⟨w.heap.size, i * 3, none⟩ = some (.int .i64 (a.get i).re) := (hb.cell (p := ⟨w.heap.size, i * 3, none⟩) (by show w.heap.size < _; first | omega | (simp <;> omega))).trans (p0 _); have s0 := fun u v x => (far3 (i := 0) (j := 1) (k := 2) (u := u) (v := v) (x := x) (show wr.heap.size ≠ w.heap.size by omega)).trans q0; have q1 : w5.cell? ⟨w.heap.size, i * 3 + 1, none⟩ = some (.int .i64 (a.get i).im) := (hb.cell (p := ⟨w.heap.size, i * 3 + 1, none⟩) (by show w.heap.size < _; first | omega | (simp <;> omega))).trans (p1 _); have s1 := fun u v x => (far3 (i := 0) (j := 1) (k := 2) (u := u) (v := v) (x := x) (show wr.heap.size ≠ w.heap.size by omega)).trans q1; have q2 : w5.cell? ⟨w.heap.size, i * 3 + 2, none⟩ = some (.int .i64 (a.get i).den) := (hb.cell (p := ⟨w.heap.size, i * 3 + 2, none⟩) (by show w.heap.size < _; first | omega | (simp <;> omega))).trans (p2 _); have s2 := fun u v x => (far3 (i := 0) (j := 1) (k := 2) (u := u) (v := v) (x := x) (show wr.heap.size ≠ w.heap.size by omega)).trans q2; have q3 : w5.cell? ⟨w.heap.size + 1, k * 3, none⟩ = some (.int .i64 (b.get k).re) := (hb.cell (p := ⟨w.heap.size + 1, k * 3, none⟩) (by show w.heap.size + 1 < _; first | omega | (simp <;> omega))).trans (p3 _); have s3 := fun u v x => (far3 (i := 0) (j := 1) (k := 2) (u := u) (v := v) (x := x) (show wr.heap.size ≠ w.heap.size + 1 by omega)).trans q3; have q4 : w5.cell? ⟨w.heap.size + 1, k * 3 + 1, none⟩ = some (.int .i64 (b.get k).im) := (hb.cell (p := ⟨w.heap.size + 1, k * 3 + 1, none⟩) (by show w.heap.size + 1 < _; first | omega | (simp <;> omega))).trans (p4 _); have s4 := fun u v x => (far3 (i := 0) (j := 1) (k := 2) (u := u) (v := v) (x := x) (show wr.heap.size ≠ w.heap.size + 1 by omega)).trans q4; have q5 : w5.cell? ⟨w.heap.size + 1, k * 3 + 2, none⟩ = some (.int .i64 (b.get k).den) := (hb.cell (p := ⟨w.heap.size + 1, k * 3 + 2, none⟩) (by show w.heap.size + 1 < _; first | omega | (simp <;> omega))).trans (p5 _); have s5 := fun u v x => (far3 (i := 0) (j := 1) (k := 2) (u := u) (v := v) (x := x) (show wr.heap.size ≠ w.heap.size + 1 by omega)).trans q5; have hxB := fun q => hb.cell (p := ⟨wr.heap.size, q, none⟩) (by show wr.heap.size < _; simp); have hxF := fun q => hb.frozen (p := ⟨wr.heap.size, q, none⟩) (by show wr.heap.size < _; simp); have HRX := Lib.hid (Room.below (show Room (World.drew (wr.alloc (.cells #[.int .i64 0, .int .i64 0, .int .i64 0] 24))) wr.heap.size 1 from Room.new' rfl rfl) hb (by simp)); clear ho hb))
          all_goals (clear b0 b1 b2 b3 b4 b5 p0 p1 p2 p3 p4 p5 q0 q1 q2 q3 q4 q5; first | clear r0 r1 r2 r3 r4 r5 | clear s0 s1 s2 s3 s4 s5)
          · have hsL := HT.out.below.size
            have hsA2 := HT.out.hA
            have hsB2 := HT.out.hB
            obtain ⟨V, hW⟩ : ∃ W, W = w5.alloc (.cells #[.int .i64 (fTimes (a.get i) (b.get k)).1.re, .int .i64 (fTimes (a.get i) (b.get k)).1.im, .int .i64 (fTimes (a.get i) (b.get k)).1.den] 24) := ⟨_, rfl⟩
            have HT : Hid (ARel w (w.heap.size) (w.heap.size + 1) a b i k V) := by rw [hW]; exact HT.out.alloc _
            have HXx : Hid (BoxAt V w5.heap.size (fun _ => (fTimes (a.get i) (b.get k)).1) 1) := by rw [hW]; exact BoxAt.new _ _ _ _ _ (src1 (fTimes (a.get i) (b.get k)).1)
            have hzHXx : w5.heap.size < V.heap.size := by rw [hW]; simp
            rw [← hW]
            clear hW hsA hsB hsA2 hsB2 hsL
            have hsA := HT.out.hA
            have hsB := HT.out.hB
            have b0 : V.drew.cell? ⟨w.heap.size, k * 3, none⟩ = some (.int .i64 (a.get k).re) := (HT.out.one k (by omega)).1
            have p0 : ∀ z, (V.alloc z).drew.cell? ⟨w.heap.size, k * 3, none⟩ = some (.int .i64 (a.get k).re) := fun z => (World.cell?_alloc_old _ _ _ (show w.heap.size ≠ V.heap.size by omega)).trans b0
            have b1 : V.drew.cell? ⟨w.heap.size, k * 3 + 1, none⟩ = some (.int .i64 (a.get k).im) := (HT.out.one k (by omega)).2.1
            have p1 : ∀ z, (V.alloc z).drew.cell? ⟨w.heap.size, k * 3 + 1, none⟩ = some (.int .i64 (a.get k).im) := fun z => (World.cell?_alloc_old _ _ _ (show w.heap.size ≠ V.heap.size by omega)).trans b1
            have b2 : V.drew.cell? ⟨w.heap.size, k * 3 + 2, none⟩ = some (.int .i64 (a.get k).den) := (HT.out.one k (by omega)).2.2
            have p2 : ∀ z, (V.alloc z).drew.cell? ⟨w.heap.size, k * 3 + 2, none⟩ = some (.int .i64 (a.get k).den) := fun z => (World.cell?_alloc_old _ _ _ (show w.heap.size ≠ V.heap.size by omega)).trans b2
            have b3 : V.drew.cell? ⟨w.heap.size + 1, i * 3, none⟩ = some (.int .i64 (b.get i).re) := (HT.out.two i (by omega)).1
            have p3 : ∀ z, (V.alloc z).drew.cell? ⟨w.heap.size + 1, i * 3, none⟩ = some (.int .i64 (b.get i).re) := fun z => (World.cell?_alloc_old _ _ _ (show w.heap.size + 1 ≠ V.heap.size by omega)).trans b3
            have b4 : V.drew.cell? ⟨w.heap.size + 1, i * 3 + 1, none⟩ = some (.int .i64 (b.get i).im) := (HT.out.two i (by omega)).2.1
            have p4 : ∀ z, (V.alloc z).drew.cell? ⟨w.heap.size + 1, i * 3 + 1, none⟩ = some (.int .i64 (b.get i).im) := fun z => (World.cell?_alloc_old _ _ _ (show w.heap.size + 1 ≠ V.heap.size by omega)).trans b4
            have b5 : V.drew.cell? ⟨w.heap.size + 1, i * 3 + 2, none⟩ = some (.int .i64 (b.get i).den) := (HT.out.two i (by omega)).2.2
            have p5 : ∀ z, (V.alloc z).drew.cell? ⟨w.heap.size + 1, i * 3 + 2, none⟩ = some (.int .i64 (b.get i).den) := fun z => (World.cell?_alloc_old _ _ _ (show w.heap.size + 1 ≠ V.heap.size by omega)).trans b5
            go_wp2
            go_region_held3 (fun w' => w'.cell? ⟨w.heap.size, k * 3, none⟩ = some (.int .i64 (a.get k).re) ∧ w'.cell? ⟨w.heap.size, k * 3 + 1, none⟩ = some (.int .i64 (a.get k).im) ∧ w'.cell? ⟨w.heap.size, k * 3 + 2, none⟩ = some (.int .i64 (a.get k).den) ∧ w'.cell? ⟨w.heap.size + 1, i * 3, none⟩ = some (.int .i64 (b.get i).re) ∧ w'.cell? ⟨w.heap.size + 1, i * 3 + 1, none⟩ = some (.int .i64 (b.get i).im) ∧ w'.cell? ⟨w.heap.size + 1, i * 3 + 2, none⟩ = some (.int .i64 (b.get i).den)) (((try dsimp only); (first | (with_reducible exact ⟨b0, b1, b2, b3, b4, b5⟩) | (with_reducible exact ⟨p0 _, p1 _, p2 _, p3 _, p4 _, p5 _⟩) | (with_reducible exact ⟨q0, q1, q2, q3, q4, q5⟩) | (with_reducible exact ⟨r0 _, r1 _, r2 _, r3 _, r4 _, r5 _⟩) | (with_reducible exact ⟨s0 _ _ _, s1 _ _ _, s2 _ _ _, s3 _ _ _, s4 _ _ _, s5 _ _ _⟩)))) (first | (go_at_call 38; (with_reducible refine (sptimes_fr (a.get k) (b.get i) V.drew).mono ?_); rintro e w6 ho; obtain ⟨rfl, hb⟩ := ho.fn; have HT := Lib.hid (HT.out.drew.next hb); have hzw6 : V.heap.size ≤ w6.heap.size := (by have := hb.size; simpa using this); have q0 : w6.cell? ⟨w.heap.size, k * 3, none⟩ = some (.int .i64 (a.get k).re) := (hb.cell (p := ⟨w.heap.size, k * 3, none⟩) (by show w.heap.size < _; first | omega | (simp <;> omega))).trans (b0); have r0 := fun z => (World.cell?_alloc_old _ z _ (show w.heap.size ≠ w6.heap.size by omega)).trans q0; have q1 : w6.cell? ⟨w.heap.size, k * 3 + 1, none⟩ = some (.int .i64 (a.get k).im) := (hb.cell (p := ⟨w.heap.size, k * 3 + 1, none⟩) (by show w.heap.size < _; first | omega | (simp <;> omega))).trans (b1); have r1 := fun z => (World.cell?_alloc_old _ z _ (show w.heap.size ≠ w6.heap.size by omega)).trans q1; have q2 : w6.cell? ⟨w.heap.size, k * 3 + 2, none⟩ = some (.int .i64 (a.get k).den) := (hb.cell (p := ⟨w.heap.size, k * 3 + 2, none⟩) (by show w.heap.size < _; first | omega | (simp <;> omega))).trans (b2); have r2 := fun z => (World.cell?_alloc_old _ z _ (show w.heap.size ≠ w6.heap.size by omega)).trans q2; have q3 : w6.cell? ⟨w.heap.size + 1, i * 3, none⟩ = some (.int .i64 (b.get i).re) := (hb.cell (p := ⟨w.heap.size + 1, i * 3, none⟩) (by show w.heap.size + 1 < _; first | omega | (simp <;> omega))).trans (b3); have r3 := fun z => (World.cell?_alloc_old _ z _ (show w.heap.size + 1 ≠ w6.heap.size by omega)).trans q3; have q4 : w6.cell? ⟨w.heap.size + 1, i * 3 + 1, none⟩ = some (.int .i64 (b.get i).im) := (hb.cell (p := ⟨w.heap.size + 1, i * 3 + 1, none⟩) (by show w.heap.size + 1 < _; first | omega | (simp <;> omega))).trans (b4); have r4 := fun z => (World.cell?_alloc_old _ z _ (show w.heap.size + 1 ≠ w6.heap.size by omega)).trans q4; have q5 : w6.cell? ⟨w.heap.size + 1, i * 3 + 2, none⟩ = some (.int .i64 (b.get i).den) := (hb.cell (p := ⟨w.heap.size + 1, i * 3 + 2, none⟩) (by show w.heap.size + 1 < _; first | omega | (simp <;> omega))).trans (b5); have r5 := fun z => (World.cell?_alloc_old _ z _ (show w.heap.size + 1 ≠ w6.heap.size by omega)).trans q5; have HXx := Lib.hid ((BoxAt.drew' HXx.out).below hb (by simpa using hzHXx)); clear ho hb) | (go_at_call 38; (with_reducible refine (sptimes_fr (a.get k) (b.get i) (World.drew (V.alloc _))).mono ?_); rintro e w6 ho; obtain ⟨rfl, hb⟩ := ho.fn; have HT := Lib.hid ((HT.out.alloc _).drew.next hb); have hzw6 : V.heap.size + 1 ≤ w6.heap.size := (by have := hb.size; simpa using this); have q0 : w6.cell? ⟨w.heap.size, k * 3, none⟩ = some (.int .i64 (a.get k).re) := (hb.cell (p := ⟨w.heap.size, k * 3, none⟩) (by show w.heap.size < _; first | omega | (simp <;> omega))).trans (p0 _); have s0 := fun u v x => (far3 (i := 0) (j := 1) (k := 2) (u := u) (v := v) (x := x) (show V.heap.size ≠ w.heap.size by omega)).trans q0; have q1 : w6.cell? ⟨w.heap.size, k * 3 + 1, none⟩ = some (.int .i64 (a.get k).im) := (hb.cell (p := ⟨w.heap.size, k * 3 + 1, none⟩) (by show w.heap.size < _; first | omega | (simp <;> omega))).trans (p1 _); have s1 := fun u v x => (far3 (i := 0) (j := 1) (k := 2) (u := u) (v := v) (x := x) (show V.heap.size ≠ w.heap.size by omega)).trans q1; have q2 : w6.cell? ⟨w.heap.size, k * 3 + 2, none⟩ = some (.int .i64 (a.get k).den) := (hb.cell (p := ⟨w.heap.size, k * 3 + 2, none⟩) (by show w.heap.size < _; first | omega | (simp <;> omega))).trans (p2 _); have s2 := fun u v x => (far3 (i := 0) (j := 1) (k := 2) (u := u) (v := v) (x := x) (show V.heap.size ≠ w.heap.size by omega)).trans q2; have q3 : w6.cell? ⟨w.heap.size + 1, i * 3, none⟩ = some (.int .i64 (b.get i).re) := (hb.cell (p := ⟨w.heap.size + 1, i * 3, none⟩) (by show w.heap.size + 1 < _; first | omega | (simp <;> omega))).trans (p3 _); have s3 := fun u v x => (far3 (i := 0) (j := 1) (k := 2) (u := u) (v := v) (x := x) (show V.heap.size ≠ w.heap.size + 1 by omega)).trans q3; have q4 : w6.cell? ⟨w.heap.size + 1, i * 3 + 1, none⟩ = some (.int .i64 (b.get i).im) := (hb.cell (p := ⟨w.heap.size + 1, i * 3 + 1, none⟩) (by show w.heap.size + 1 < _; first | omega | (simp <;> omega))).trans (p4 _); have s4 := fun u v x => (far3 (i := 0) (j := 1) (k := 2) (u := u) (v := v) (x := x) (show V.heap.size ≠ w.heap.size + 1 by omega)).trans q4; have q5 : w6.cell? ⟨w.heap.size + 1, i * 3 + 2, none⟩ = some (.int .i64 (b.get i).den) := (hb.cell (p := ⟨w.heap.size + 1, i * 3 + 2, none⟩) (by show w.heap.size + 1 < _; first | omega | (simp <;> omega))).trans (p5 _); have s5 := fun u v x => (far3 (i := 0) (j := 1) (k := 2) (u := u) (v := v) (x := x) (show V.heap.size ≠ w.heap.size + 1 by omega)).trans q5; have HXx := Lib.hid ((BoxAt.drew' (HXx.out.alloc hzHXx (.cells #[.int .i64 0, .int .i64 0, .int .i64 0] 24))).below hb (by simp; omega)); have hxB := fun q => hb.cell (p := ⟨V.heap.size, q, none⟩) (by show V.heap.size < _; simp); have hxF := fun q => hb.frozen (p := ⟨V.heap.size, q, none⟩) (by show V.heap.size < _; simp); have HRX := Lib.hid (Room.below (show Room (World.drew (V.alloc (.cells #[.int .i64 0, .int .i64 0, .int .i64 0] 24))) V.heap.size 1 from Room.new' rfl rfl) hb (by simp)); clear ho hb))
            all_goals (clear b0 b1 b2 b3 b4 b5 p0 p1 p2 p3 p4 p5 q0 q1 q2 q3 q4 q5; first | clear r0 r1 r2 r3 r4 r5 | clear s0 s1 s2 s3 s4 s5)
            · have hsL := HT.out.below.size
              have hsA2 := HT.out.hA
              have hsB2 := HT.out.hB
              obtain ⟨U, hW⟩ : ∃ W, W = w6.alloc (.cells #[.int .i64 (fTimes (a.get k) (b.get i)).1.re, .int .i64 (fTimes (a.get k) (b.get i)).1.im, .int .i64 (fTimes (a.get k) (b.get i)).1.den] 24) := ⟨_, rfl⟩
              have HT : Hid (ARel w (w.heap.size) (w.heap.size + 1) a b i k U) := by rw [hW]; exact HT.out.alloc _
              have HYy : Hid (BoxAt U w6.heap.size (fun _ => (fTimes (a.get k) (b.get i)).1) 1) := by rw [hW]; exact BoxAt.new _ _ _ _ _ (src1 (fTimes (a.get k) (b.get i)).1)
              have hzHYy : w6.heap.size < U.heap.size := by rw [hW]; simp
              have HXx : Hid (BoxAt U w5.heap.size (fun _ => (fTimes (a.get i) (b.get k)).1) 1) := by rw [hW]; exact HXx.out.alloc (by omega) _
              have hzHXx : w5.heap.size < U.heap.size := by rw [hW]; simp; omega
              rw [← hW]
              clear hW hsA hsB hsA2 hsB2 hsL
              have x0 : U.cell? ⟨w5.heap.size, 0, none⟩ = some (.int .i64 (fTimes (a.get i) (b.get k)).1.re) := (HXx.out 0 (by omega)).1
              have x1 : U.cell? ⟨w5.heap.size, 1, none⟩ = some (.int .i64 (fTimes (a.get i) (b.get k)).1.im) := (HXx.out 0 (by omega)).2.1
              have x2 : U.cell? ⟨w5.heap.size, 2, none⟩ = some (.int .i64 (fTimes (a.get i) (b.get k)).1.den) := (HXx.out 0 (by omega)).2.2
              have y0 : U.cell? ⟨w6.heap.size, 0, none⟩ = some (.int .i64 (fTimes (a.get k) (b.get i)).1.re) := (HYy.out 0 (by omega)).1
              have y1 : U.cell? ⟨w6.heap.size, 1, none⟩ = some (.int .i64 (fTimes (a.get k) (b.get i)).1.im) := (HYy.out 0 (by omega)).2.1
              have y2 : U.cell? ⟨w6.heap.size, 2, none⟩ = some (.int .i64 (fTimes (a.get k) (b.get i)).1.den) := (HYy.out 0 (by omega)).2.2
              cases c1 : (fTimes (a.get i) (b.get k)).2
              · have HG := Lib.hid (alB_bad hk h4 (show gpB a b i k = false by unfold gpB; rw [c1]; rfl))
                have HB := Lib.hid HT.out.below
                clear HT HXx HYy
                go_wp2
                go_ret
                exact ⟨by rw [HG.out]; rfl, HB.out⟩
              · cases c2 : (fTimes (a.get k) (b.get i)).2
                · have HG := Lib.hid (alB_bad hk h4 (show gpB a b i k = false by unfold gpB; rw [c2]; simp))
                  have HB := Lib.hid HT.out.below
                  clear HT HXx HYy
                  go_wp2
                  go_ret
                  exact ⟨by rw [HG.out]; rfl, HB.out⟩
                · by_cases e1 : (fTimes (a.get i) (b.get k)).1.re = (fTimes (a.get k) (b.get i)).1.re
                  case neg =>
                    have HG := Lib.hid (alB_bad hk h4 (show gpB a b i k = false by unfold gpB frEq; simp [e1]))
                    have HB := Lib.hid HT.out.below
                    clear HT HXx HYy
                    go_wp2
                    go_ret
                    exact ⟨by rw [HG.out]; rfl, HB.out⟩
                  by_cases e2 : (fTimes (a.get i) (b.get k)).1.im = (fTimes (a.get k) (b.get i)).1.im
                  case neg =>
                    have HG := Lib.hid (alB_bad hk h4 (show gpB a b i k = false by unfold gpB frEq; simp [e2]))
                    have HB := Lib.hid HT.out.below
                    clear HT HXx HYy
                    go_wp2
                    go_ret
                    exact ⟨by rw [HG.out]; rfl, HB.out⟩
                  by_cases e3 : (fTimes (a.get i) (b.get k)).1.den = (fTimes (a.get k) (b.get i)).1.den
                  case neg =>
                    have HG := Lib.hid (alB_bad hk h4 (show gpB a b i k = false by unfold gpB frEq; simp [e3]))
                    have HB := Lib.hid HT.out.below
                    clear HT HXx HYy
                    go_wp2
                    go_ret
                    exact ⟨by rw [HG.out]; rfl, HB.out⟩
                  have HS := Lib.hid (HT.out.step hk (show gpB a b i k = true by unfold gpB frEq; rw [c1, c2]; simp [e1, e2, e3]))
                  clear HT HXx HYy
                  go_wp2
                  go_roundw
                  case rel => exact ⟨k + 1, by go_num, HS.out⟩
                  case measure => simp [intOf]; omega
            · have hsL := HT.out.below.size
              have hsA2 := HT.out.hA
              have hsB2 := HT.out.hB
              obtain ⟨U, hW⟩ : ∃ W, W = ((w6.setCell ⟨V.heap.size, 0, none⟩ (.int .i64 (fTimes (a.get k) (b.get i)).1.re)).setCell ⟨V.heap.size, 1, none⟩ (.int .i64 (fTimes (a.get k) (b.get i)).1.im)).setCell ⟨V.heap.size, 2, none⟩ (.int .i64 (fTimes (a.get k) (b.get i)).1.den) := ⟨_, rfl⟩
              have HT : Hid (ARel w (w.heap.size) (w.heap.size + 1) a b i k U) := by rw [hW]; exact HT.out.other (by omega) (by omega) (by omega) (fTimes (a.get k) (b.get i)).1
              have HYy : Hid (BoxAt U V.heap.size (fun _ => (fTimes (a.get k) (b.get i)).1) 1) := by rw [hW]; exact BoxAt.put (g := fun _ => (fTimes (a.get k) (b.get i)).1) (k := 0) (fun k hk => absurd hk (by omega)) HRX.out (by omega)
              have hzHYy : V.heap.size < U.heap.size := by rw [hW]; simp; omega
              have HXx : Hid (BoxAt U w5.heap.size (fun _ => (fTimes (a.get i) (b.get k)).1) 1) := by rw [hW]; exact HXx.out.put_other (M := V.heap.size) (by omega) 0 (fTimes (a.get k) (b.get i)).1
              have hzHXx : w5.heap.size < U.heap.size := by rw [hW]; simp; omega
              clear hxB hxF HRX
              rw [← hW]
              clear hW hsA hsB hsA2 hsB2 hsL
              have x0 : U.cell? ⟨w5.heap.size, 0, none⟩ = some (.int .i64 (fTimes (a.get i) (b.get k)).1.re) := (HXx.out 0 (by omega)).1
              have x1 : U.cell? ⟨w5.heap.size, 1, none⟩ = some (.int .i64 (fTimes (a.get i) (b.get k)).1.im) := (HXx.out 0 (by omega)).2.1
              have x2 : U.cell? ⟨w5.heap.size, 2, none⟩ = some (.int .i64 (fTimes (a.get i) (b.get k)).1.den) := (HXx.out 0 (by omega)).2.2
              have y0 : U.cell? ⟨V.heap.size, 0, none⟩ = some (.int .i64 (fTimes (a.get k) (b.get i)).1.re) := (HYy.out 0 (by omega)).1
              have y1 : U.cell? ⟨V.heap.size, 1, none⟩ = some (.int .i64 (fTimes (a.get k) (b.get i)).1.im) := (HYy.out 0 (by omega)).2.1
              have y2 : U.cell? ⟨V.heap.size, 2, none⟩ = some (.int .i64 (fTimes (a.get k) (b.get i)).1.den) := (HYy.out 0 (by omega)).2.2
              cases c1 : (fTimes (a.get i) (b.get k)).2
              · have HG := Lib.hid (alB_bad hk h4 (show gpB a b i k = false by unfold gpB; rw [c1]; rfl))
                have HB := Lib.hid HT.out.below
                clear HT HXx HYy
                go_wp2
                go_ret
                exact ⟨by rw [HG.out]; rfl, HB.out⟩
              · cases c2 : (fTimes (a.get k) (b.get i)).2
                · have HG := Lib.hid (alB_bad hk h4 (show gpB a b i k = false by unfold gpB; rw [c2]; simp))
                  have HB := Lib.hid HT.out.below
                  clear HT HXx HYy
                  go_wp2
                  go_ret
                  exact ⟨by rw [HG.out]; rfl, HB.out⟩
                · by_cases e1 : (fTimes (a.get i) (b.get k)).1.re = (fTimes (a.get k) (b.get i)).1.re
                  case neg =>
                    have HG := Lib.hid (alB_bad hk h4 (show gpB a b i k = false by unfold gpB frEq; simp [e1]))
                    have HB := Lib.hid HT.out.below
                    clear HT HXx HYy
                    go_wp2
                    go_ret
                    exact ⟨by rw [HG.out]; rfl, HB.out⟩
                  by_cases e2 : (fTimes (a.get i) (b.get k)).1.im = (fTimes (a.get k) (b.get i)).1.im
                  case neg =>
                    have HG := Lib.hid (alB_bad hk h4 (show gpB a b i k = false by unfold gpB frEq; simp [e2]))
                    have HB := Lib.hid HT.out.below
                    clear HT HXx HYy
                    go_wp2
                    go_ret
                    exact ⟨by rw [HG.out]; rfl, HB.out⟩
                  by_cases e3 : (fTimes (a.get i) (b.get k)).1.den = (fTimes (a.get k) (b.get i)).1.den
                  case neg =>
                    have HG := Lib.hid (alB_bad hk h4 (show gpB a b i k = false by unfold gpB frEq; simp [e3]))
                    have HB := Lib.hid HT.out.below
                    clear HT HXx HYy
                    go_wp2
                    go_ret
                    exact ⟨by rw [HG.out]; rfl, HB.out⟩
                  have HS := Lib.hid (HT.out.step hk (show gpB a b i k = true by unfold gpB frEq; rw [c1, c2]; simp [e1, e2, e3]))
                  clear HT HXx HYy
                  go_wp2
                  go_roundw
                  case rel => exact ⟨k + 1, by go_num, HS.out⟩
                  case measure => simp [intOf]; omega
          · have hsL := HT.out.below.size
            have hsA2 := HT.out.hA
            have hsB2 := HT.out.hB
            obtain ⟨V, hW⟩ : ∃ W, W = ((w5.setCell ⟨wr.heap.size, 0, none⟩ (.int .i64 (fTimes (a.get i) (b.get k)).1.re)).setCell ⟨wr.heap.size, 1, none⟩ (.int .i64 (fTimes (a.get i) (b.get k)).1.im)).setCell ⟨wr.heap.size, 2, none⟩ (.int .i64 (fTimes (a.get i) (b.get k)).1.den) := ⟨_, rfl⟩
            have HT : Hid (ARel w (w.heap.size) (w.heap.size + 1) a b i k V) := by rw [hW]; exact HT.out.other (by omega) (by omega) (by omega) (fTimes (a.get i) (b.get k)).1
            have HXx : Hid (BoxAt V wr.heap.size (fun _ => (fTimes (a.get i) (b.get k)).1) 1) := by rw [hW]; exact BoxAt.put (g := fun _ => (fTimes (a.get i) (b.get k)).1) (k := 0) (fun k hk => absurd hk (by omega)) HRX.out (by omega)
            have hzHXx : wr.heap.size < V.heap.size := by rw [hW]; simp; omega
            clear hxB hxF HRX
            rw [← hW]
            clear hW hsA hsB hsA2 hsB2 hsL
            have hsA := HT.out.hA
            have hsB := HT.out.hB
            have b0 : V.drew.cell? ⟨w.heap.size, k * 3, none⟩ = some (.int .i64 (a.get k).re) := (HT.out.one k (by omega)).1
            have p0 : ∀ z, (V.alloc z).drew.cell? ⟨w.heap.size, k * 3, none⟩ = some (.int .i64 (a.get k).re) := fun z => (World.cell?_alloc_old _ _ _ (show w.heap.size ≠ V.heap.size by omega)).trans b0
            have b1 : V.drew.cell? ⟨w.heap.size, k * 3 + 1, none⟩ = some (.int .i64 (a.get k).im) := (HT.out.one k (by omega)).2.1
            have p1 : ∀ z, (V.alloc z).drew.cell? ⟨w.heap.size, k * 3 + 1, none⟩ = some (.int .i64 (a.get k).im) := fun z => (World.cell?_alloc_old _ _ _ (show w.heap.size ≠ V.heap.size by omega)).trans b1
            have b2 : V.drew.cell? ⟨w.heap.size, k * 3 + 2, none⟩ = some (.int .i64 (a.get k).den) := (HT.out.one k (by omega)).2.2
            have p2 : ∀ z, (V.alloc z).drew.cell? ⟨w.heap.size, k * 3 + 2, none⟩ = some (.int .i64 (a.get k).den) := fun z => (World.cell?_alloc_old _ _ _ (show w.heap.size ≠ V.heap.size by omega)).trans b2
            have b3 : V.drew.cell? ⟨w.heap.size + 1, i * 3, none⟩ = some (.int .i64 (b.get i).re) := (HT.out.two i (by omega)).1
            have p3 : ∀ z, (V.alloc z).drew.cell? ⟨w.heap.size + 1, i * 3, none⟩ = some (.int .i64 (b.get i).re) := fun z => (World.cell?_alloc_old _ _ _ (show w.heap.size + 1 ≠ V.heap.size by omega)).trans b3
            have b4 : V.drew.cell? ⟨w.heap.size + 1, i * 3 + 1, none⟩ = some (.int .i64 (b.get i).im) := (HT.out.two i (by omega)).2.1
            have p4 : ∀ z, (V.alloc z).drew.cell? ⟨w.heap.size + 1, i * 3 + 1, none⟩ = some (.int .i64 (b.get i).im) := fun z => (World.cell?_alloc_old _ _ _ (show w.heap.size + 1 ≠ V.heap.size by omega)).trans b4
            have b5 : V.drew.cell? ⟨w.heap.size + 1, i * 3 + 2, none⟩ = some (.int .i64 (b.get i).den) := (HT.out.two i (by omega)).2.2
            have p5 : ∀ z, (V.alloc z).drew.cell? ⟨w.heap.size + 1, i * 3 + 2, none⟩ = some (.int .i64 (b.get i).den) := fun z => (World.cell?_alloc_old _ _ _ (show w.heap.size + 1 ≠ V.heap.size by omega)).trans b5
            go_wp2
            go_region_held3 (fun w' => w'.cell? ⟨w.heap.size, k * 3, none⟩ = some (.int .i64 (a.get k).re) ∧ w'.cell? ⟨w.heap.size, k * 3 + 1, none⟩ = some (.int .i64 (a.get k).im) ∧ w'.cell? ⟨w.heap.size, k * 3 + 2, none⟩ = some (.int .i64 (a.get k).den) ∧ w'.cell? ⟨w.heap.size + 1, i * 3, none⟩ = some (.int .i64 (b.get i).re) ∧ w'.cell? ⟨w.heap.size + 1, i * 3 + 1, none⟩ = some (.int .i64 (b.get i).im) ∧ w'.cell? ⟨w.heap.size + 1, i * 3 + 2, none⟩ = some (.int .i64 (b.get i).den)) (((try dsimp only); (first | (with_reducible exact ⟨b0, b1, b2, b3, b4, b5⟩) | (with_reducible exact ⟨p0 _, p1 _, p2 _, p3 _, p4 _, p5 _⟩) | (with_reducible exact ⟨q0, q1, q2, q3, q4, q5⟩) | (with_reducible exact ⟨r0 _, r1 _, r2 _, r3 _, r4 _, r5 _⟩) | (with_reducible exact ⟨s0 _ _ _, s1 _ _ _, s2 _ _ _, s3 _ _ _, s4 _ _ _, s5 _ _ _⟩)))) (first | (go_at_call 38; (with_reducible refine (sptimes_fr (a.get k) (b.get i) V.drew).mono ?_); rintro e w6 ho; obtain ⟨rfl, hb⟩ := ho.fn; have HT := Lib.hid (HT.out.drew.next hb); have hzw6 : V.heap.size ≤ w6.heap.size := (by have := hb.size; simpa using this); have q0 : w6.cell? ⟨w.heap.size, k * 3, none⟩ = some (.int .i64 (a.get k).re) := (hb.cell (p := ⟨w.heap.size, k * 3, none⟩) (by show w.heap.size < _; first | omega | (simp <;> omega))).trans (b0); have r0 := fun z => (World.cell?_alloc_old _ z _ (show w.heap.size ≠ w6.heap.size by omega)).trans q0; have q1 : w6.cell? ⟨w.heap.size, k * 3 + 1, none⟩ = some (.int .i64 (a.get k).im) := (hb.cell (p := ⟨w.heap.size, k * 3 + 1, none⟩) (by show w.heap.size < _; first | omega | (simp <;> omega))).trans (b1); have r1 := fun z => (World.cell?_alloc_old _ z _ (show w.heap.size ≠ w6.heap.size by omega)).trans q1; have q2 : w6.cell? ⟨w.heap.size, k * 3 + 2, none⟩ = some (.int .i64 (a.get k).den) := (hb.cell (p := ⟨w.heap.size, k * 3 + 2, none⟩) (by show w.heap.size < _; first | omega | (simp <;> omega))).trans (b2); have r2 := fun z => (World.cell?_alloc_old _ z _ (show w.heap.size ≠ w6.heap.size by omega)).trans q2; have q3 : w6.cell? ⟨w.heap.size + 1, i * 3, none⟩ = some (.int .i64 (b.get i).re) := (hb.cell (p := ⟨w.heap.size + 1, i * 3, none⟩) (by show w.heap.size + 1 < _; first | omega | (simp <;> omega))).trans (b3); have r3 := fun z => (World.cell?_alloc_old _ z _ (show w.heap.size + 1 ≠ w6.heap.size by omega)).trans q3; have q4 : w6.cell? ⟨w.heap.size + 1, i * 3 + 1, none⟩ = some (.int .i64 (b.get i).im) := (hb.cell (p := ⟨w.heap.size + 1, i * 3 + 1, none⟩) (by show w.heap.size + 1 < _; first | omega | (simp <;> omega))).trans (b4); have r4 := fun z => (World.cell?_alloc_old _ z _ (show w.heap.size + 1 ≠ w6.heap.size by omega)).trans q4; have q5 : w6.cell? ⟨w.heap.size + 1, i * 3 + 2, none⟩ = some (.int .i64 (b.get i).den) := (hb.cell (p := ⟨w.heap.size + 1, i * 3 + 2, none⟩) (by show w.heap.size + 1 < _; first | omega | (simp <;> omega))).trans (b5); have r5 := fun z => (World.cell?_alloc_old _ z _ (show w.heap.size + 1 ≠ w6.heap.size by omega)).trans q5; have HXx := Lib.hid ((BoxAt.drew' HXx.out).below hb (by simpa using hzHXx)); clear ho hb) | (go_at_call 38; (with_reducible refine (sptimes_fr (a.get k) (b.get i) (World.drew (V.alloc _))).mono ?_); rintro e w6 ho; obtain ⟨rfl, hb⟩ := ho.fn; have HT := Lib.hid ((HT.out.alloc _).drew.next hb); have hzw6 : V.heap.size + 1 ≤ w6.heap.size := (by have := hb.size; simpa using this); have q0 : w6.cell? ⟨w.heap.size, k * 3, none⟩ = some (.int .i64 (a.get k).re) := (hb.cell (p := ⟨w.heap.size, k * 3, none⟩) (by show w.heap.size < _; first | omega | (simp <;> omega))).trans (p0 _); have s0 := fun u v x => (far3 (i := 0) (j := 1) (k := 2) (u := u) (v := v) (x := x) (show V.heap.size ≠ w.heap.size by omega)).trans q0; have q1 : w6.cell? ⟨w.heap.size, k * 3 + 1, none⟩ = some (.int .i64 (a.get k).im) := (hb.cell (p := ⟨w.heap.size, k * 3 + 1, none⟩) (by show w.heap.size < _; first | omega | (simp <;> omega))).trans (p1 _); have s1 := fun u v x => (far3 (i := 0) (j := 1) (k := 2) (u := u) (v := v) (x := x) (show V.heap.size ≠ w.heap.size by omega)).trans q1; have q2 : w6.cell? ⟨w.heap.size, k * 3 + 2, none⟩ = some (.int .i64 (a.get k).den) := (hb.cell (p := ⟨w.heap.size, k * 3 + 2, none⟩) (by show w.heap.size < _; first | omega | (simp <;> omega))).trans (p2 _); have s2 := fun u v x => (far3 (i := 0) (j := 1) (k := 2) (u := u) (v := v) (x := x) (show V.heap.size ≠ w.heap.size by omega)).trans q2; have q3 : w6.cell? ⟨w.heap.size + 1, i * 3, none⟩ = some (.int .i64 (b.get i).re) := (hb.cell (p := ⟨w.heap.size + 1, i * 3, none⟩) (by show w.heap.size + 1 < _; first | omega | (simp <;> omega))).trans (p3 _); have s3 := fun u v x => (far3 (i := 0) (j := 1) (k := 2) (u := u) (v := v) (x := x) (show V.heap.size ≠ w.heap.size + 1 by omega)).trans q3; have q4 : w6.cell? ⟨w.heap.size + 1, i * 3 + 1, none⟩ = some (.int .i64 (b.get i).im) := (hb.cell (p := ⟨w.heap.size + 1, i * 3 + 1, none⟩) (by show w.heap.size + 1 < _; first | omega | (simp <;> omega))).trans (p4 _); have s4 := fun u v x => (far3 (i := 0) (j := 1) (k := 2) (u := u) (v := v) (x := x) (show V.heap.size ≠ w.heap.size + 1 by omega)).trans q4; have q5 : w6.cell? ⟨w.heap.size + 1, i * 3 + 2, none⟩ = some (.int .i64 (b.get i).den) := (hb.cell (p := ⟨w.heap.size + 1, i * 3 + 2, none⟩) (by show w.heap.size + 1 < _; first | omega | (simp <;> omega))).trans (p5 _); have s5 := fun u v x => (far3 (i := 0) (j := 1) (k := 2) (u := u) (v := v) (x := x) (show V.heap.size ≠ w.heap.size + 1 by omega)).trans q5; have HXx := Lib.hid ((BoxAt.drew' (HXx.out.alloc hzHXx (.cells #[.int .i64 0, .int .i64 0, .int .i64 0] 24))).below hb (by simp; omega)); have hxB := fun q => hb.cell (p := ⟨V.heap.size, q, none⟩) (by show V.heap.size < _; simp); have hxF := fun q => hb.frozen (p := ⟨V.heap.size, q, none⟩) (by show V.heap.size < _; simp); have HRX := Lib.hid (Room.below (show Room (World.drew (V.alloc (.cells #[.int .i64 0, .int .i64 0, .int .i64 0] 24))) V.heap.size 1 from Room.new' rfl rfl) hb (by simp)); clear ho hb))
            all_goals (clear b0 b1 b2 b3 b4 b5 p0 p1 p2 p3 p4 p5 q0 q1 q2 q3 q4 q5; first | clear r0 r1 r2 r3 r4 r5 | clear s0 s1 s2 s3 s4 s5)
            · have hsL := HT.out.below.size
              have hsA2 := HT.out.hA
              have hsB2 := HT.out.hB
              obtain ⟨U, hW⟩ : ∃ W, W = w6.alloc (.cells #[.int .i64 (fTimes (a.get k) (b.get i)).1.re, .int .i64 (fTimes (a.get k) (b.get i)).1.im, .int .i64 (fTimes (a.get k) (b.get i)).1.den] 24) := ⟨_, rfl⟩
              have HT : Hid (ARel w (w.heap.size) (w.heap.size + 1) a b i k U) := by rw [hW]; exact HT.out.alloc _
              have HYy : Hid (BoxAt U w6.heap.size (fun _ => (fTimes (a.get k) (b.get i)).1) 1) := by rw [hW]; exact BoxAt.new _ _ _ _ _ (src1 (fTimes (a.get k) (b.get i)).1)
              have hzHYy : w6.heap.size < U.heap.size := by rw [hW]; simp
              have HXx : Hid (BoxAt U wr.heap.size (fun _ => (fTimes (a.get i) (b.get k)).1) 1) := by rw [hW]; exact HXx.out.alloc (by omega) _
              have hzHXx : wr.heap.size < U.heap.size := by rw [hW]; simp; omega
              rw [← hW]
              clear hW hsA hsB hsA2 hsB2 hsL
              have x0 : U.cell? ⟨wr.heap.size, 0, none⟩ = some (.int .i64 (fTimes (a.get i) (b.get k)).1.re) := (HXx.out 0 (by omega)).1
              have x1 : U.cell? ⟨wr.heap.size, 1, none⟩ = some (.int .i64 (fTimes (a.get i) (b.get k)).1.im) := (HXx.out 0 (by omega)).2.1
              have x2 : U.cell? ⟨wr.heap.size, 2, none⟩ = some (.int .i64 (fTimes (a.get i) (b.get k)).1.den) := (HXx.out 0 (by omega)).2.2
              have y0 : U.cell? ⟨w6.heap.size, 0, none⟩ = some (.int .i64 (fTimes (a.get k) (b.get i)).1.re) := (HYy.out 0 (by omega)).1
              have y1 : U.cell? ⟨w6.heap.size, 1, none⟩ = some (.int .i64 (fTimes (a.get k) (b.get i)).1.im) := (HYy.out 0 (by omega)).2.1
              have y2 : U.cell? ⟨w6.heap.size, 2, none⟩ = some (.int .i64 (fTimes (a.get k) (b.get i)).1.den) := (HYy.out 0 (by omega)).2.2
              cases c1 : (fTimes (a.get i) (b.get k)).2
              · have HG := Lib.hid (alB_bad hk h4 (show gpB a b i k = false by unfold gpB; rw [c1]; rfl))
                have HB := Lib.hid HT.out.below
                clear HT HXx HYy
                go_wp2
                go_ret
                exact ⟨by rw [HG.out]; rfl, HB.out⟩
              · cases c2 : (fTimes (a.get k) (b.get i)).2
                · have HG := Lib.hid (alB_bad hk h4 (show gpB a b i k = false by unfold gpB; rw [c2]; simp))
                  have HB := Lib.hid HT.out.below
                  clear HT HXx HYy
                  go_wp2
                  go_ret
                  exact ⟨by rw [HG.out]; rfl, HB.out⟩
                · by_cases e1 : (fTimes (a.get i) (b.get k)).1.re = (fTimes (a.get k) (b.get i)).1.re
                  case neg =>
                    have HG := Lib.hid (alB_bad hk h4 (show gpB a b i k = false by unfold gpB frEq; simp [e1]))
                    have HB := Lib.hid HT.out.below
                    clear HT HXx HYy
                    go_wp2
                    go_ret
                    exact ⟨by rw [HG.out]; rfl, HB.out⟩
                  by_cases e2 : (fTimes (a.get i) (b.get k)).1.im = (fTimes (a.get k) (b.get i)).1.im
                  case neg =>
                    have HG := Lib.hid (alB_bad hk h4 (show gpB a b i k = false by unfold gpB frEq; simp [e2]))
                    have HB := Lib.hid HT.out.below
                    clear HT HXx HYy
                    go_wp2
                    go_ret
                    exact ⟨by rw [HG.out]; rfl, HB.out⟩
                  by_cases e3 : (fTimes (a.get i) (b.get k)).1.den = (fTimes (a.get k) (b.get i)).1.den
                  case neg =>
                    have HG := Lib.hid (alB_bad hk h4 (show gpB a b i k = false by unfold gpB frEq; simp [e3]))
                    have HB := Lib.hid HT.out.below
                    clear HT HXx HYy
                    go_wp2
                    go_ret
                    exact ⟨by rw [HG.out]; rfl, HB.out⟩
                  have HS := Lib.hid (HT.out.step hk (show gpB a b i k = true by unfold gpB frEq; rw [c1, c2]; simp [e1, e2, e3]))
                  clear HT HXx HYy
                  go_wp2
                  go_roundw
                  case rel => exact ⟨k + 1, by go_num, HS.out⟩
                  case measure => simp [intOf]; omega
            · have hsL := HT.out.below.size
              have hsA2 := HT.out.hA
              have hsB2 := HT.out.hB
              obtain ⟨U, hW⟩ : ∃ W, W = ((w6.setCell ⟨V.heap.size, 0, none⟩ (.int .i64 (fTimes (a.get k) (b.get i)).1.re)).setCell ⟨V.heap.size, 1, none⟩ (.int .i64 (fTimes (a.get k) (b.get i)).1.im)).setCell ⟨V.heap.size, 2, none⟩ (.int .i64 (fTimes (a.get k) (b.get i)).1.den) := ⟨_, rfl⟩
              have HT : Hid (ARel w (w.heap.size) (w.heap.size + 1) a b i k U) := by rw [hW]; exact HT.out.other (by omega) (by omega) (by omega) (fTimes (a.get k) (b.get i)).1
              have HYy : Hid (BoxAt U V.heap.size (fun _ => (fTimes (a.get k) (b.get i)).1) 1) := by rw [hW]; exact BoxAt.put (g := fun _ => (fTimes (a.get k) (b.get i)).1) (k := 0) (fun k hk => absurd hk (by omega)) HRX.out (by omega)
              have hzHYy : V.heap.size < U.heap.size := by rw [hW]; simp; omega
              have HXx : Hid (BoxAt U wr.heap.size (fun _ => (fTimes (a.get i) (b.get k)).1) 1) := by rw [hW]; exact HXx.out.put_other (M := V.heap.size) (by omega) 0 (fTimes (a.get k) (b.get i)).1
              have hzHXx : wr.heap.size < U.heap.size := by rw [hW]; simp; omega
              clear hxB hxF HRX
              rw [← hW]
              clear hW hsA hsB hsA2 hsB2 hsL
              have x0 : U.cell? ⟨wr.heap.size, 0, none⟩ = some (.int .i64 (fTimes (a.get i) (b.get k)).1.re) := (HXx.out 0 (by omega)).1
              have x1 : U.cell? ⟨wr.heap.size, 1, none⟩ = some (.int .i64 (fTimes (a.get i) (b.get k)).1.im) := (HXx.out 0 (by omega)).2.1
              have x2 : U.cell? ⟨wr.heap.size, 2, none⟩ = some (.int .i64 (fTimes (a.get i) (b.get k)).1.den) := (HXx.out 0 (by omega)).2.2
              have y0 : U.cell? ⟨V.heap.size, 0, none⟩ = some (.int .i64 (fTimes (a.get k) (b.get i)).1.re) := (HYy.out 0 (by omega)).1
              have y1 : U.cell? ⟨V.heap.size, 1, none⟩ = some (.int .i64 (fTimes (a.get k) (b.get i)).1.im) := (HYy.out 0 (by omega)).2.1
              have y2 : U.cell? ⟨V.heap.size, 2, none⟩ = some (.int .i64 (fTimes (a.get k) (b.get i)).1.den) := (HYy.out 0 (by omega)).2.2
              cases c1 : (fTimes (a.get i) (b.get k)).2
              · have HG := Lib.hid (alB_bad hk h4 (show gpB a b i k = false by unfold gpB; rw [c1]; rfl))
                have HB := Lib.hid HT.out.below
                clear HT HXx HYy
                go_wp2
                go_ret
                exact ⟨by rw [HG.out]; rfl, HB.out⟩
              · cases c2 : (fTimes (a.get k) (b.get i)).2
                · have HG := Lib.hid (alB_bad hk h4 (show gpB a b i k = false by unfold gpB; rw [c2]; simp))
                  have HB := Lib.hid HT.out.below
                  clear HT HXx HYy
                  go_wp2
                  go_ret
                  exact ⟨by rw [HG.out]; rfl, HB.out⟩
                · by_cases e1 : (fTimes (a.get i) (b.get k)).1.re = (fTimes (a.get k) (b.get i)).1.re
                  case neg =>
                    have HG := Lib.hid (alB_bad hk h4 (show gpB a b i k = false by unfold gpB frEq; simp [e1]))
                    have HB := Lib.hid HT.out.below
                    clear HT HXx HYy
                    go_wp2
                    go_ret
                    exact ⟨by rw [HG.out]; rfl, HB.out⟩
                  by_cases e2 : (fTimes (a.get i) (b.get k)).1.im = (fTimes (a.get k) (b.get i)).1.im
                  case neg =>
                    have HG := Lib.hid (alB_bad hk h4 (show gpB a b i k = false by unfold gpB frEq; simp [e2]))
                    have HB := Lib.hid HT.out.below
                    clear HT HXx HYy
                    go_wp2
                    go_ret
                    exact ⟨by rw [HG.out]; rfl, HB.out⟩
                  by_cases e3 : (fTimes (a.get i) (b.get k)).1.den = (fTimes (a.get k) (b.get i)).1.den
                  case neg =>
                    have HG := Lib.hid (alB_bad hk h4 (show gpB a b i k = false by unfold gpB frEq; simp [e3]))
                    have HB := Lib.hid HT.out.below
                    clear HT HXx HYy
                    go_wp2
                    go_ret
                    exact ⟨by rw [HG.out]; rfl, HB.out⟩
                  have HS := Lib.hid (HT.out.step hk (show gpB a b i k = true by unfold gpB frEq; rw [c1, c2]; simp [e1, e2, e3]))
                  clear HT HXx HYy
                  go_wp2
                  go_roundw
                  case rel => exact ⟨k + 1, by go_num, HS.out⟩
                  case measure => simp [intOf]; omega
        · obtain rfl : k = i := by have := hT.lk; omega
          go_wp2
          go_roundw
          case rel => exact ⟨k + 1, by go_num, hT.row h4⟩
          case measure => simp [intOf]; omega
    · obtain rfl : i = 4 := by have := hT.le; omega
      have HG : Hid (alB a b = true) := alB_all (fun p q hq hp => hT.good p q hq (Or.inl hp))
      go_wp2
      go_ret
      exact ⟨by rw [HG.out]; rfl, hT.below⟩
end Go.Proofs.Ytamdjgehmmogjaa
