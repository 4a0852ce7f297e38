/- Multiples of matrices are alike. The row lists package-level variables, and the card ties them to the text of the program: the pruned copy of the project that the seat holds. -/
import Derived.Test.YtmcokdiopcpifaaDoorMsG18
import Derived.Test.YtmcokdiopcpifaaDoorMsSMI
import Derived.Test.YtmcokdiopcpifaaDoorMsG28
import Derived.Test.YtmcokdiopcpifaaDoorMsDM2
import Derived.Test.YtmcokdiopcpifaaDoorMsK3
import Derived.Test.YtmcokdiopcpifaaDoorTie
import Derived.Test.YtmcokdiopcpifaaDoorCards
import Derived.SevenTiedAt
set_option maxRecDepth 100000
namespace Go.Proofs.YtmcokdiopcpifaaDoor
open Go.ChangeShapes Go.WideShapes Go.ChangeAt Go.RowKit Pol
/-- Are the parts of both matrices small, up to place n? -/
def ssT (u t : M4) (k : Nat) : Bool := decide ((u.get k).re < 10000 ∧ (-10000 : Int) < (u.get k).re ∧ (u.get k).im < 10000 ∧ (-10000 : Int) < (u.get k).im ∧ (u.get k).den < 10000 ∧ (t.get k).re < 10000 ∧ (-10000 : Int) < (t.get k).re ∧ (t.get k).im < 10000 ∧ (-10000 : Int) < (t.get k).im ∧ (t.get k).den < 10000)
def ssB (u t : M4) : Nat → Bool
  | 0 => true
  | k + 1 => ssB u t k && ssT u t k
theorem ssB_no {u t : M4} {k : Nat} (h : ssB u t k = false) : ssB u t (k + 1) = false := by show (ssB u t k && _) = false; rw [h]; rfl
theorem ssB_bad {u t : M4} {k : Nat} (h : ssT u t k = false) : ssB u t (k + 1) = false := by
  show (_ && ssT u t k) = false
  rw [h]; simp
theorem ssB_yes {u t : M4} {k : Nat} (h : ssB u t k = true) (h2 : ssT u t k = true) : ssB u t (k + 1) = true := by
  show (ssB u t k && ssT u t k) = true
  rw [h, h2]; rfl
theorem ssB_all {u t : M4} : ∀ {n : Nat}, ssB u t n = true → ∀ k, k < n → sm1 (u.get k) = true ∧ sm1 (t.get k) = true
  | 0, _, k, hk => absurd hk (by omega)
  | n + 1, h, k, hk => by
    have h' : (ssB u t n && ssT u t n) = true := h
    rw [Bool.and_eq_true] at h'
    by_cases e : k = n
    · subst e
      obtain ⟨x1, x2, x3, x4, x5, x6, x7, x8, x9, x0⟩ := of_decide_eq_true h'.2
      exact ⟨decide_eq_true ⟨x2, x1, x4, x3, x5⟩, decide_eq_true ⟨x7, x6, x9, x8, x0⟩⟩
    · exact ssB_all h'.1 k (by omega)
theorem sc_box4 {W : World} {X : Nat} {m : M4} (h : W.rangeAt X 0 [.int .i64 m.a.re, .int .i64 m.a.im, .int .i64 m.a.den, .int .i64 m.b.re, .int .i64 m.b.im, .int .i64 m.b.den, .int .i64 m.c.re, .int .i64 m.c.im, .int .i64 m.c.den, .int .i64 m.d.re, .int .i64 m.d.im, .int .i64 m.d.den]) : BoxAt W X m.get 4 := fun k hk => by
  have e : k = 0 ∨ k = 1 ∨ k = 2 ∨ k = 3 := by omega
  rcases e with rfl | rfl | rfl | rfl
  · exact ⟨by have := h 0 _ rfl; rwa [Nat.zero_add] at this, by have := h 1 _ rfl; rwa [Nat.zero_add] at this, by have := h 2 _ rfl; rwa [Nat.zero_add] at this⟩
  · exact ⟨by have := h 3 _ rfl; rwa [Nat.zero_add] at this, by have := h 4 _ rfl; rwa [Nat.zero_add] at this, by have := h 5 _ rfl; rwa [Nat.zero_add] at this⟩
  · exact ⟨by have := h 6 _ rfl; rwa [Nat.zero_add] at this, by have := h 7 _ rfl; rwa [Nat.zero_add] at this, by have := h 8 _ rfl; rwa [Nat.zero_add] at this⟩
  · exact ⟨by have := h 9 _ rfl; rwa [Nat.zero_add] at this, by have := h 10 _ rfl; rwa [Nat.zero_add] at this, by have := h 11 _ rfl; rwa [Nat.zero_add] at this⟩
set_option maxRecDepth 100000 in
set_option maxHeartbeats 40000000 in
theorem walk_FnScale (a0 : Option Addr) (len cap : Nat) (w : World) (hcap : len ≤ cap) (HC : Code w.heap.size w a0 len) (hg_zero : Gat w 1 (ixF f0) 1) :
    Calls Tryd.prog 13 #[.slice a0 len cap] w fun e w' => e = .returned (.bool true) ∧ Below w.heap.size w w' := by
  by_cases hbig : 1048576 < len
  · have h1 : (1048576 : Int) < (len : Int) := by omega
    go_enter Tryd.func13, Tryd.ntmps13
    go_wp2
    go_ret
    exact ⟨rfl, Below.refl _ _⟩
  have h1 : ¬ (1048576 : Int) < (len : Int) := by omega
  have HB : Hid (Below w.heap.size w w) := Below.refl _ _
  have HG_zero := Lib.hid hg_zero; clear hg_zero
  go_enter Tryd.func13, Tryd.ntmps13
  go_wp2_with fail
  refine (DrawMatScale_any a0 len cap _ hcap HC).mono ?_
  rintro e w1 ⟨a, c, rfl, hb⟩
  have HB := Lib.hid (show Below w.heap.size w w1 from HB.out.trans ((show Below _ _ _ from (Below.refl _ _)).trans (hb.mono (by first | omega | (simp <;> omega)))))
  have hz1 := hb.size
  (try simp at hz1)
  clear hb
  cases hg : (mSca a c).2
  · skip
    have HG : Hid (mSca a c = (m4z, false)) := gt_no hg
    clear hg
    go_wp2_with (first | ((with_reducible refine wpList_load_mid ?kl11 41 ?kl1x ?kl12 (w1.heap.size) 0 ?kl13 [.int .i64 a.a.re, .int .i64 a.a.im, .int .i64 a.a.den, .int .i64 a.b.re, .int .i64 a.b.im, .int .i64 a.b.den, .int .i64 a.c.re, .int .i64 a.c.im, .int .i64 a.c.den, .int .i64 a.d.re, .int .i64 a.d.im, .int .i64 a.d.den] ?kl1d ?kl14 ?kl15 ?kl16 ?kl17 ?kl18); (case kl12 => rfl); (case kl11 => rfl); (case kl13 => rfl); (case kl14 => (exact (World.rangeAt_alloc (rangeAt_new _ _ _) _))); (case kl15 => exact Tryd.underlying41); (case kl16 => rfl); (case kl17 => kernel_rfl)) | ((with_reducible refine wpList_load_mid ?kl21 23 ?kl2x ?kl22 (w1.heap.size + 1) 0 ?kl23 [.int .i64 c.re, .int .i64 c.im, .int .i64 c.den] ?kl2d ?kl24 ?kl25 ?kl26 ?kl27 ?kl28); (case kl22 => rfl); (case kl21 => rfl); (case kl23 => rfl); (case kl24 => (exact (rangeAt_nw (by simp)))); (case kl25 => exact Tryd.underlying23); (case kl26 => rfl); (case kl27 => kernel_rfl)))
    refine (isca_any a c _).mono ?_
    rintro e w2 ho
    rw [HG.out] at ho
    obtain ⟨rfl, hb⟩ : e = .returned (.tuple #[.agg #[.int .i64 m4z.a.re, .int .i64 m4z.a.im, .int .i64 m4z.a.den, .int .i64 m4z.b.re, .int .i64 m4z.b.im, .int .i64 m4z.b.den, .int .i64 m4z.c.re, .int .i64 m4z.c.im, .int .i64 m4z.c.den, .int .i64 m4z.d.re, .int .i64 m4z.d.im, .int .i64 m4z.d.den], .bool false]) ∧ Below _ _ _ := ho.fn
    clear ho
    have HB := Lib.hid (show Below w.heap.size w w2 from HB.out.trans ((show Below _ _ _ from (((Below.refl _ _).alloc (by first | omega | (simp; done) | (simp <;> omega)) _).alloc (by first | omega | (simp; done) | (simp <;> omega)) _)).trans (hb.mono (by first | omega | (simp <;> omega)))))
    have Ha : Hid (w2.rangeAt (w1.heap.size) 0 [.int .i64 a.a.re, .int .i64 a.a.im, .int .i64 a.a.den, .int .i64 a.b.re, .int .i64 a.b.im, .int .i64 a.b.den, .int .i64 a.c.re, .int .i64 a.c.im, .int .i64 a.c.den, .int .i64 a.d.re, .int .i64 a.d.im, .int .i64 a.d.den]) := rangeAt_below (World.rangeAt_alloc (rangeAt_new _ _ _) _) hb (by first | omega | (simp; done) | (simp <;> omega))
    have Hc : Hid (w2.rangeAt (w1.heap.size + 1) 0 [.int .i64 c.re, .int .i64 c.im, .int .i64 c.den]) := rangeAt_below (rangeAt_nw (by simp)) hb (by first | omega | (simp; done) | (simp <;> omega))
    have hz2 := hb.size
    (try simp at hz2)
    clear hb
    have nA0 : w1.heap.size < w2.heap.size := by omega
    have nB0 : ¬ w1.heap.size = w2.heap.size := by omega
    have nC0 : ¬ w2.heap.size = w1.heap.size := by omega
    have nA1 : w1.heap.size + 1 < w2.heap.size := by omega
    have nB1 : ¬ w1.heap.size + 1 = w2.heap.size := by omega
    have nC1 : ¬ w2.heap.size = w1.heap.size + 1 := by omega
    go_wp2_with (first | ((with_reducible refine wpList_load_mid ?kl31 41 ?kl3x ?kl32 (w1.heap.size) 0 ?kl33 [.int .i64 a.a.re, .int .i64 a.a.im, .int .i64 a.a.den, .int .i64 a.b.re, .int .i64 a.b.im, .int .i64 a.b.den, .int .i64 a.c.re, .int .i64 a.c.im, .int .i64 a.c.den, .int .i64 a.d.re, .int .i64 a.d.im, .int .i64 a.d.den] ?kl3d ?kl34 ?kl35 ?kl36 ?kl37 ?kl38); (case kl32 => rfl); (case kl31 => rfl); (case kl33 => rfl); (case kl34 => (exact (World.rangeAt_alloc Ha.out _))); (case kl35 => exact Tryd.underlying41); (case kl36 => rfl); (case kl37 => kernel_rfl)) | ((with_reducible refine wpList_load_mid ?kl41 23 ?kl4x ?kl42 (w1.heap.size + 1) 0 ?kl43 [.int .i64 c.re, .int .i64 c.im, .int .i64 c.den] ?kl4d ?kl44 ?kl45 ?kl46 ?kl47 ?kl48); (case kl42 => rfl); (case kl41 => rfl); (case kl43 => rfl); (case kl44 => (exact (World.rangeAt_alloc Hc.out _))); (case kl45 => exact Tryd.underlying23); (case kl46 => rfl); (case kl47 => kernel_rfl)))
    refine (ssca_any a c _).mono ?_
    rintro e w3 ho
    rw [HG.out] at ho
    obtain ⟨rfl, hb⟩ : e = .returned (.tuple #[.agg #[.int .i64 m4z.a.re, .int .i64 m4z.a.im, .int .i64 m4z.a.den, .int .i64 m4z.b.re, .int .i64 m4z.b.im, .int .i64 m4z.b.den, .int .i64 m4z.c.re, .int .i64 m4z.c.im, .int .i64 m4z.c.den, .int .i64 m4z.d.re, .int .i64 m4z.d.im, .int .i64 m4z.d.den], .bool false]) ∧ Below _ _ _ := ho.fn
    clear ho
    have HB := Lib.hid (show Below w.heap.size w w3 from HB.out.trans ((show Below _ _ _ from ((Below.refl _ _).alloc (by first | omega | (simp; done) | (simp <;> omega)) _)).trans (hb.mono (by first | omega | (simp <;> omega)))))
    have Ha : Hid (w3.rangeAt (w1.heap.size) 0 [.int .i64 a.a.re, .int .i64 a.a.im, .int .i64 a.a.den, .int .i64 a.b.re, .int .i64 a.b.im, .int .i64 a.b.den, .int .i64 a.c.re, .int .i64 a.c.im, .int .i64 a.c.den, .int .i64 a.d.re, .int .i64 a.d.im, .int .i64 a.d.den]) := rangeAt_below (World.rangeAt_alloc Ha.out _) hb (by first | omega | (simp; done) | (simp <;> omega))
    have Hc : Hid (w3.rangeAt (w1.heap.size + 1) 0 [.int .i64 c.re, .int .i64 c.im, .int .i64 c.den]) := rangeAt_below (World.rangeAt_alloc Hc.out _) hb (by first | omega | (simp; done) | (simp <;> omega))
    have Ho : Hid (w3.rangeAt (w2.heap.size) 0 [.int .i64 m4z.a.re, .int .i64 m4z.a.im, .int .i64 m4z.a.den, .int .i64 m4z.b.re, .int .i64 m4z.b.im, .int .i64 m4z.b.den, .int .i64 m4z.c.re, .int .i64 m4z.c.im, .int .i64 m4z.c.den, .int .i64 m4z.d.re, .int .i64 m4z.d.im, .int .i64 m4z.d.den]) := rangeAt_below (rangeAt_new _ _ _) hb (by first | omega | (simp; done) | (simp <;> omega))
    have hz3 := hb.size
    (try simp at hz3)
    clear hb
    have nA0 : w1.heap.size < w3.heap.size := by omega
    have nB0 : ¬ w1.heap.size = w3.heap.size := by omega
    have nC0 : ¬ w3.heap.size = w1.heap.size := by omega
    have nA1 : w1.heap.size + 1 < w3.heap.size := by omega
    have nB1 : ¬ w1.heap.size + 1 = w3.heap.size := by omega
    have nC1 : ¬ w3.heap.size = w1.heap.size + 1 := by omega
    have nA2 : w2.heap.size < w3.heap.size := by omega
    have nB2 : ¬ w2.heap.size = w3.heap.size := by omega
    have nC2 : ¬ w3.heap.size = w2.heap.size := by omega
    have hEq1 : ∀ w, (Op.equalIn 10000 41 (.agg #[.int .i64 m4z.a.re, .int .i64 m4z.a.im, .int .i64 m4z.a.den, .int .i64 m4z.b.re, .int .i64 m4z.b.im, .int .i64 m4z.b.den, .int .i64 m4z.c.re, .int .i64 m4z.c.im, .int .i64 m4z.c.den, .int .i64 m4z.d.re, .int .i64 m4z.d.im, .int .i64 m4z.d.den]) (.agg #[.int .i64 m4z.a.re, .int .i64 m4z.a.im, .int .i64 m4z.a.den, .int .i64 m4z.b.re, .int .i64 m4z.b.im, .int .i64 m4z.b.den, .int .i64 m4z.c.re, .int .i64 m4z.c.im, .int .i64 m4z.c.den, .int .i64 m4z.d.re, .int .i64 m4z.d.im, .int .i64 m4z.d.den])).run Tryd.prog w = .ok true w := eqMat_run m4z
    have zo_0 : w3.cell? ⟨w2.heap.size, 0, none⟩ = some (.int .i64 m4z.a.re) := by have := Ho.out 0 _ rfl; rwa [Nat.zero_add] at this
    have zo_1 : w3.cell? ⟨w2.heap.size, 1, none⟩ = some (.int .i64 m4z.a.im) := by have := Ho.out 1 _ rfl; rwa [Nat.zero_add] at this
    have zo_2 : w3.cell? ⟨w2.heap.size, 2, none⟩ = some (.int .i64 m4z.a.den) := by have := Ho.out 2 _ rfl; rwa [Nat.zero_add] at this
    have zo_3 : w3.cell? ⟨w2.heap.size, 3, none⟩ = some (.int .i64 m4z.b.re) := by have := Ho.out 3 _ rfl; rwa [Nat.zero_add] at this
    have zo_4 : w3.cell? ⟨w2.heap.size, 4, none⟩ = some (.int .i64 m4z.b.im) := by have := Ho.out 4 _ rfl; rwa [Nat.zero_add] at this
    have zo_5 : w3.cell? ⟨w2.heap.size, 5, none⟩ = some (.int .i64 m4z.b.den) := by have := Ho.out 5 _ rfl; rwa [Nat.zero_add] at this
    have zo_6 : w3.cell? ⟨w2.heap.size, 6, none⟩ = some (.int .i64 m4z.c.re) := by have := Ho.out 6 _ rfl; rwa [Nat.zero_add] at this
    have zo_7 : w3.cell? ⟨w2.heap.size, 7, none⟩ = some (.int .i64 m4z.c.im) := by have := Ho.out 7 _ rfl; rwa [Nat.zero_add] at this
    have zo_8 : w3.cell? ⟨w2.heap.size, 8, none⟩ = some (.int .i64 m4z.c.den) := by have := Ho.out 8 _ rfl; rwa [Nat.zero_add] at this
    have zo_9 : w3.cell? ⟨w2.heap.size, 9, none⟩ = some (.int .i64 m4z.d.re) := by have := Ho.out 9 _ rfl; rwa [Nat.zero_add] at this
    have zo_10 : w3.cell? ⟨w2.heap.size, 10, none⟩ = some (.int .i64 m4z.d.im) := by have := Ho.out 10 _ rfl; rwa [Nat.zero_add] at this
    have zo_11 : w3.cell? ⟨w2.heap.size, 11, none⟩ = some (.int .i64 m4z.d.den) := by have := Ho.out 11 _ rfl; rwa [Nat.zero_add] at this
    go_wp2_with fail
    go_ret
    exact ⟨rfl, (by (repeat' first | (with_reducible exact HB.out) | with_reducible refine setCells_below _ _ _ ?_ (by first | omega | (simp <;> omega)) | with_reducible refine Below.setCell ?_ (by show _ ≤ _; first | omega | (simp <;> omega) | simp) _ | with_reducible refine Below.alloc ?_ (by first | omega | (simp <;> omega)) _ | with_reducible apply Below.drew | with_reducible refine below_drewN ?_ _))⟩
  · skip
    obtain ⟨o, hw⟩ : ∃ z, z = (mSca a c).1 := ⟨_, rfl⟩
    have hg2 : mSca a c = (o, true) := by rw [hw, ← hg]
    have hla := fun z p q => law_scale hg2 z p q
    have HG := Lib.hid hg2
    have HLA := Lib.hid hla
    clear hg hw hg2 hla
    go_wp2_with (first | ((with_reducible refine wpList_load_mid ?kl51 41 ?kl5x ?kl52 (w1.heap.size) 0 ?kl53 [.int .i64 a.a.re, .int .i64 a.a.im, .int .i64 a.a.den, .int .i64 a.b.re, .int .i64 a.b.im, .int .i64 a.b.den, .int .i64 a.c.re, .int .i64 a.c.im, .int .i64 a.c.den, .int .i64 a.d.re, .int .i64 a.d.im, .int .i64 a.d.den] ?kl5d ?kl54 ?kl55 ?kl56 ?kl57 ?kl58); (case kl52 => rfl); (case kl51 => rfl); (case kl53 => rfl); (case kl54 => (exact (World.rangeAt_alloc (rangeAt_new _ _ _) _))); (case kl55 => exact Tryd.underlying41); (case kl56 => rfl); (case kl57 => kernel_rfl)) | ((with_reducible refine wpList_load_mid ?kl61 23 ?kl6x ?kl62 (w1.heap.size + 1) 0 ?kl63 [.int .i64 c.re, .int .i64 c.im, .int .i64 c.den] ?kl6d ?kl64 ?kl65 ?kl66 ?kl67 ?kl68); (case kl62 => rfl); (case kl61 => rfl); (case kl63 => rfl); (case kl64 => (exact (rangeAt_nw (by simp)))); (case kl65 => exact Tryd.underlying23); (case kl66 => rfl); (case kl67 => kernel_rfl)))
    refine (isca_any a c _).mono ?_
    rintro e w2 ho
    rw [HG.out] at ho
    obtain ⟨rfl, hb⟩ : e = .returned (.tuple #[.agg #[.int .i64 o.a.re, .int .i64 o.a.im, .int .i64 o.a.den, .int .i64 o.b.re, .int .i64 o.b.im, .int .i64 o.b.den, .int .i64 o.c.re, .int .i64 o.c.im, .int .i64 o.c.den, .int .i64 o.d.re, .int .i64 o.d.im, .int .i64 o.d.den], .bool true]) ∧ Below _ _ _ := ho.fn
    clear ho
    have HB := Lib.hid (show Below w.heap.size w w2 from HB.out.trans ((show Below _ _ _ from (((Below.refl _ _).alloc (by first | omega | (simp; done) | (simp <;> omega)) _).alloc (by first | omega | (simp; done) | (simp <;> omega)) _)).trans (hb.mono (by first | omega | (simp <;> omega)))))
    have Ha : Hid (w2.rangeAt (w1.heap.size) 0 [.int .i64 a.a.re, .int .i64 a.a.im, .int .i64 a.a.den, .int .i64 a.b.re, .int .i64 a.b.im, .int .i64 a.b.den, .int .i64 a.c.re, .int .i64 a.c.im, .int .i64 a.c.den, .int .i64 a.d.re, .int .i64 a.d.im, .int .i64 a.d.den]) := rangeAt_below (World.rangeAt_alloc (rangeAt_new _ _ _) _) hb (by first | omega | (simp; done) | (simp <;> omega))
    have Hc : Hid (w2.rangeAt (w1.heap.size + 1) 0 [.int .i64 c.re, .int .i64 c.im, .int .i64 c.den]) := rangeAt_below (rangeAt_nw (by simp)) hb (by first | omega | (simp; done) | (simp <;> omega))
    have hz2 := hb.size
    (try simp at hz2)
    clear hb
    have nA0 : w1.heap.size < w2.heap.size := by omega
    have nB0 : ¬ w1.heap.size = w2.heap.size := by omega
    have nC0 : ¬ w2.heap.size = w1.heap.size := by omega
    have nA1 : w1.heap.size + 1 < w2.heap.size := by omega
    have nB1 : ¬ w1.heap.size + 1 = w2.heap.size := by omega
    have nC1 : ¬ w2.heap.size = w1.heap.size + 1 := by omega
    go_wp2_with (first | ((with_reducible refine wpList_load_mid ?kl71 41 ?kl7x ?kl72 (w1.heap.size) 0 ?kl73 [.int .i64 a.a.re, .int .i64 a.a.im, .int .i64 a.a.den, .int .i64 a.b.re, .int .i64 a.b.im, .int .i64 a.b.den, .int .i64 a.c.re, .int .i64 a.c.im, .int .i64 a.c.den, .int .i64 a.d.re, .int .i64 a.d.im, .int .i64 a.d.den] ?kl7d ?kl74 ?kl75 ?kl76 ?kl77 ?kl78); (case kl72 => rfl); (case kl71 => rfl); (case kl73 => rfl); (case kl74 => (exact (World.rangeAt_alloc Ha.out _))); (case kl75 => exact Tryd.underlying41); (case kl76 => rfl); (case kl77 => kernel_rfl)) | ((with_reducible refine wpList_load_mid ?kl81 23 ?kl8x ?kl82 (w1.heap.size + 1) 0 ?kl83 [.int .i64 c.re, .int .i64 c.im, .int .i64 c.den] ?kl8d ?kl84 ?kl85 ?kl86 ?kl87 ?kl88); (case kl82 => rfl); (case kl81 => rfl); (case kl83 => rfl); (case kl84 => (exact (World.rangeAt_alloc Hc.out _))); (case kl85 => exact Tryd.underlying23); (case kl86 => rfl); (case kl87 => kernel_rfl)))
    refine (ssca_any a c _).mono ?_
    rintro e w3 ho
    rw [HG.out] at ho
    obtain ⟨rfl, hb⟩ : e = .returned (.tuple #[.agg #[.int .i64 o.a.re, .int .i64 o.a.im, .int .i64 o.a.den, .int .i64 o.b.re, .int .i64 o.b.im, .int .i64 o.b.den, .int .i64 o.c.re, .int .i64 o.c.im, .int .i64 o.c.den, .int .i64 o.d.re, .int .i64 o.d.im, .int .i64 o.d.den], .bool true]) ∧ Below _ _ _ := ho.fn
    clear ho
    have HB := Lib.hid (show Below w.heap.size w w3 from HB.out.trans ((show Below _ _ _ from ((Below.refl _ _).alloc (by first | omega | (simp; done) | (simp <;> omega)) _)).trans (hb.mono (by first | omega | (simp <;> omega)))))
    have Ha : Hid (w3.rangeAt (w1.heap.size) 0 [.int .i64 a.a.re, .int .i64 a.a.im, .int .i64 a.a.den, .int .i64 a.b.re, .int .i64 a.b.im, .int .i64 a.b.den, .int .i64 a.c.re, .int .i64 a.c.im, .int .i64 a.c.den, .int .i64 a.d.re, .int .i64 a.d.im, .int .i64 a.d.den]) := rangeAt_below (World.rangeAt_alloc Ha.out _) hb (by first | omega | (simp; done) | (simp <;> omega))
    have Hc : Hid (w3.rangeAt (w1.heap.size + 1) 0 [.int .i64 c.re, .int .i64 c.im, .int .i64 c.den]) := rangeAt_below (World.rangeAt_alloc Hc.out _) hb (by first | omega | (simp; done) | (simp <;> omega))
    have Ho : Hid (w3.rangeAt (w2.heap.size) 0 [.int .i64 o.a.re, .int .i64 o.a.im, .int .i64 o.a.den, .int .i64 o.b.re, .int .i64 o.b.im, .int .i64 o.b.den, .int .i64 o.c.re, .int .i64 o.c.im, .int .i64 o.c.den, .int .i64 o.d.re, .int .i64 o.d.im, .int .i64 o.d.den]) := rangeAt_below (rangeAt_new _ _ _) hb (by first | omega | (simp; done) | (simp <;> omega))
    have hz3 := hb.size
    (try simp at hz3)
    clear hb
    have nA0 : w1.heap.size < w3.heap.size := by omega
    have nB0 : ¬ w1.heap.size = w3.heap.size := by omega
    have nC0 : ¬ w3.heap.size = w1.heap.size := by omega
    have nA1 : w1.heap.size + 1 < w3.heap.size := by omega
    have nB1 : ¬ w1.heap.size + 1 = w3.heap.size := by omega
    have nC1 : ¬ w3.heap.size = w1.heap.size + 1 := by omega
    have nA2 : w2.heap.size < w3.heap.size := by omega
    have nB2 : ¬ w2.heap.size = w3.heap.size := by omega
    have nC2 : ¬ w3.heap.size = w2.heap.size := by omega
    have hEq1 : ∀ w, (Op.equalIn 10000 41 (.agg #[.int .i64 o.a.re, .int .i64 o.a.im, .int .i64 o.a.den, .int .i64 o.b.re, .int .i64 o.b.im, .int .i64 o.b.den, .int .i64 o.c.re, .int .i64 o.c.im, .int .i64 o.c.den, .int .i64 o.d.re, .int .i64 o.d.im, .int .i64 o.d.den]) (.agg #[.int .i64 o.a.re, .int .i64 o.a.im, .int .i64 o.a.den, .int .i64 o.b.re, .int .i64 o.b.im, .int .i64 o.b.den, .int .i64 o.c.re, .int .i64 o.c.im, .int .i64 o.c.den, .int .i64 o.d.re, .int .i64 o.d.im, .int .i64 o.d.den])).run Tryd.prog w = .ok true w := eqMat_run o
    have zo_0 : w3.cell? ⟨w2.heap.size, 0, none⟩ = some (.int .i64 o.a.re) := by have := Ho.out 0 _ rfl; rwa [Nat.zero_add] at this
    have zo_1 : w3.cell? ⟨w2.heap.size, 1, none⟩ = some (.int .i64 o.a.im) := by have := Ho.out 1 _ rfl; rwa [Nat.zero_add] at this
    have zo_2 : w3.cell? ⟨w2.heap.size, 2, none⟩ = some (.int .i64 o.a.den) := by have := Ho.out 2 _ rfl; rwa [Nat.zero_add] at this
    have zo_3 : w3.cell? ⟨w2.heap.size, 3, none⟩ = some (.int .i64 o.b.re) := by have := Ho.out 3 _ rfl; rwa [Nat.zero_add] at this
    have zo_4 : w3.cell? ⟨w2.heap.size, 4, none⟩ = some (.int .i64 o.b.im) := by have := Ho.out 4 _ rfl; rwa [Nat.zero_add] at this
    have zo_5 : w3.cell? ⟨w2.heap.size, 5, none⟩ = some (.int .i64 o.b.den) := by have := Ho.out 5 _ rfl; rwa [Nat.zero_add] at this
    have zo_6 : w3.cell? ⟨w2.heap.size, 6, none⟩ = some (.int .i64 o.c.re) := by have := Ho.out 6 _ rfl; rwa [Nat.zero_add] at this
    have zo_7 : w3.cell? ⟨w2.heap.size, 7, none⟩ = some (.int .i64 o.c.im) := by have := Ho.out 7 _ rfl; rwa [Nat.zero_add] at this
    have zo_8 : w3.cell? ⟨w2.heap.size, 8, none⟩ = some (.int .i64 o.c.den) := by have := Ho.out 8 _ rfl; rwa [Nat.zero_add] at this
    have zo_9 : w3.cell? ⟨w2.heap.size, 9, none⟩ = some (.int .i64 o.d.re) := by have := Ho.out 9 _ rfl; rwa [Nat.zero_add] at this
    have zo_10 : w3.cell? ⟨w2.heap.size, 10, none⟩ = some (.int .i64 o.d.im) := by have := Ho.out 10 _ rfl; rwa [Nat.zero_add] at this
    have zo_11 : w3.cell? ⟨w2.heap.size, 11, none⟩ = some (.int .i64 o.d.den) := by have := Ho.out 11 _ rfl; rwa [Nat.zero_add] at this
    obtain ⟨w4, hV⟩ : ∃ V, V = (w3.alloc (.cells #[.int .i64 o.a.re, .int .i64 o.a.im, .int .i64 o.a.den, .int .i64 o.b.re, .int .i64 o.b.im, .int .i64 o.b.den, .int .i64 o.c.re, .int .i64 o.c.im, .int .i64 o.c.den, .int .i64 o.d.re, .int .i64 o.d.im, .int .i64 o.d.den] 41)) := ⟨_, rfl⟩
    have HB : Hid (Below w.heap.size w w4) := by show Below _ _ _; rw [hV]; exact (Below.alloc HB.out (by first | omega | (simp; done) | (simp <;> omega)) _)
    have Ha : Hid (w4.rangeAt (w1.heap.size) 0 [.int .i64 a.a.re, .int .i64 a.a.im, .int .i64 a.a.den, .int .i64 a.b.re, .int .i64 a.b.im, .int .i64 a.b.den, .int .i64 a.c.re, .int .i64 a.c.im, .int .i64 a.c.den, .int .i64 a.d.re, .int .i64 a.d.im, .int .i64 a.d.den]) := by show World.rangeAt _ _ _ _; rw [hV]; exact (World.rangeAt_alloc Ha.out _)
    have Hc : Hid (w4.rangeAt (w1.heap.size + 1) 0 [.int .i64 c.re, .int .i64 c.im, .int .i64 c.den]) := by show World.rangeAt _ _ _ _; rw [hV]; exact (World.rangeAt_alloc Hc.out _)
    have Ho : Hid (w4.rangeAt (w2.heap.size) 0 [.int .i64 o.a.re, .int .i64 o.a.im, .int .i64 o.a.den, .int .i64 o.b.re, .int .i64 o.b.im, .int .i64 o.b.den, .int .i64 o.c.re, .int .i64 o.c.im, .int .i64 o.c.den, .int .i64 o.d.re, .int .i64 o.d.im, .int .i64 o.d.den]) := by show World.rangeAt _ _ _ _; rw [hV]; exact (World.rangeAt_alloc Ho.out _)
    have Hqq : Hid (w4.rangeAt (w3.heap.size) 0 [.int .i64 o.a.re, .int .i64 o.a.im, .int .i64 o.a.den, .int .i64 o.b.re, .int .i64 o.b.im, .int .i64 o.b.den, .int .i64 o.c.re, .int .i64 o.c.im, .int .i64 o.c.den, .int .i64 o.d.re, .int .i64 o.d.im, .int .i64 o.d.den]) := by show World.rangeAt _ _ _ _; rw [hV]; exact (rangeAt_new _ _ _)
    have hz4 : w3.heap.size + 1 ≤ w4.heap.size := by rw [hV]; simp
    have nA0 : w1.heap.size < w4.heap.size := by omega
    have nB0 : ¬ w1.heap.size = w4.heap.size := by omega
    have nC0 : ¬ w4.heap.size = w1.heap.size := by omega
    have nA1 : w1.heap.size + 1 < w4.heap.size := by omega
    have nB1 : ¬ w1.heap.size + 1 = w4.heap.size := by omega
    have nC1 : ¬ w4.heap.size = w1.heap.size + 1 := by omega
    have nA2 : w2.heap.size < w4.heap.size := by omega
    have nB2 : ¬ w2.heap.size = w4.heap.size := by omega
    have nC2 : ¬ w4.heap.size = w2.heap.size := by omega
    have nA3 : w3.heap.size < w4.heap.size := by omega
    have nB3 : ¬ w3.heap.size = w4.heap.size := by omega
    have nC3 : ¬ w4.heap.size = w3.heap.size := by omega
    have zo_0 : w4.cell? ⟨w2.heap.size, 0, none⟩ = some (.int .i64 o.a.re) := by have := Ho.out 0 _ rfl; rwa [Nat.zero_add] at this
    have zo_1 : w4.cell? ⟨w2.heap.size, 1, none⟩ = some (.int .i64 o.a.im) := by have := Ho.out 1 _ rfl; rwa [Nat.zero_add] at this
    have zo_2 : w4.cell? ⟨w2.heap.size, 2, none⟩ = some (.int .i64 o.a.den) := by have := Ho.out 2 _ rfl; rwa [Nat.zero_add] at this
    have zo_3 : w4.cell? ⟨w2.heap.size, 3, none⟩ = some (.int .i64 o.b.re) := by have := Ho.out 3 _ rfl; rwa [Nat.zero_add] at this
    have zo_4 : w4.cell? ⟨w2.heap.size, 4, none⟩ = some (.int .i64 o.b.im) := by have := Ho.out 4 _ rfl; rwa [Nat.zero_add] at this
    have zo_5 : w4.cell? ⟨w2.heap.size, 5, none⟩ = some (.int .i64 o.b.den) := by have := Ho.out 5 _ rfl; rwa [Nat.zero_add] at this
    have zo_6 : w4.cell? ⟨w2.heap.size, 6, none⟩ = some (.int .i64 o.c.re) := by have := Ho.out 6 _ rfl; rwa [Nat.zero_add] at this
    have zo_7 : w4.cell? ⟨w2.heap.size, 7, none⟩ = some (.int .i64 o.c.im) := by have := Ho.out 7 _ rfl; rwa [Nat.zero_add] at this
    have zo_8 : w4.cell? ⟨w2.heap.size, 8, none⟩ = some (.int .i64 o.c.den) := by have := Ho.out 8 _ rfl; rwa [Nat.zero_add] at this
    have zo_9 : w4.cell? ⟨w2.heap.size, 9, none⟩ = some (.int .i64 o.d.re) := by have := Ho.out 9 _ rfl; rwa [Nat.zero_add] at this
    have zo_10 : w4.cell? ⟨w2.heap.size, 10, none⟩ = some (.int .i64 o.d.im) := by have := Ho.out 10 _ rfl; rwa [Nat.zero_add] at this
    have zo_11 : w4.cell? ⟨w2.heap.size, 11, none⟩ = some (.int .i64 o.d.den) := by have := Ho.out 11 _ rfl; rwa [Nat.zero_add] at this
    have zqq_0 : w4.cell? ⟨w3.heap.size, 0, none⟩ = some (.int .i64 o.a.re) := by have := Hqq.out 0 _ rfl; rwa [Nat.zero_add] at this
    have zqq_1 : w4.cell? ⟨w3.heap.size, 1, none⟩ = some (.int .i64 o.a.im) := by have := Hqq.out 1 _ rfl; rwa [Nat.zero_add] at this
    have zqq_2 : w4.cell? ⟨w3.heap.size, 2, none⟩ = some (.int .i64 o.a.den) := by have := Hqq.out 2 _ rfl; rwa [Nat.zero_add] at this
    have zqq_3 : w4.cell? ⟨w3.heap.size, 3, none⟩ = some (.int .i64 o.b.re) := by have := Hqq.out 3 _ rfl; rwa [Nat.zero_add] at this
    have zqq_4 : w4.cell? ⟨w3.heap.size, 4, none⟩ = some (.int .i64 o.b.im) := by have := Hqq.out 4 _ rfl; rwa [Nat.zero_add] at this
    have zqq_5 : w4.cell? ⟨w3.heap.size, 5, none⟩ = some (.int .i64 o.b.den) := by have := Hqq.out 5 _ rfl; rwa [Nat.zero_add] at this
    have zqq_6 : w4.cell? ⟨w3.heap.size, 6, none⟩ = some (.int .i64 o.c.re) := by have := Hqq.out 6 _ rfl; rwa [Nat.zero_add] at this
    have zqq_7 : w4.cell? ⟨w3.heap.size, 7, none⟩ = some (.int .i64 o.c.im) := by have := Hqq.out 7 _ rfl; rwa [Nat.zero_add] at this
    have zqq_8 : w4.cell? ⟨w3.heap.size, 8, none⟩ = some (.int .i64 o.c.den) := by have := Hqq.out 8 _ rfl; rwa [Nat.zero_add] at this
    have zqq_9 : w4.cell? ⟨w3.heap.size, 9, none⟩ = some (.int .i64 o.d.re) := by have := Hqq.out 9 _ rfl; rwa [Nat.zero_add] at this
    have zqq_10 : w4.cell? ⟨w3.heap.size, 10, none⟩ = some (.int .i64 o.d.im) := by have := Hqq.out 10 _ rfl; rwa [Nat.zero_add] at this
    have zqq_11 : w4.cell? ⟨w3.heap.size, 11, none⟩ = some (.int .i64 o.d.den) := by have := Hqq.out 11 _ rfl; rwa [Nat.zero_add] at this
    go_wp2_with fail
    rw [← hV]
    clear hV
    go_loopw [9, 10] (fun s i wr => ∃ k : Nat, i = .int .i64 k ∧ k ≤ 4 ∧ s = .bool (ssB a o k) ∧ Below w4.heap.size w4 wr) (fun _ i _ => (4 - intOf i).toNat)
    case atStart => exact ⟨0, rfl, by omega, rfl, Below.refl _ _⟩
    case round =>
      obtain ⟨k, rfl, hk, rfl, hbw⟩ := hrel
      have hzr := hbw.size
      have HBW := Lib.hid hbw
      by_cases h4 : k < 4
      · obtain ⟨c0, c1, c2⟩ := (sc_box4 (m := a) Ha.out).below hbw (by omega) k h4
        obtain ⟨d0, d1, d2⟩ := (sc_box4 (m := o) Ho.out).below hbw (by omega) k h4
        have i0 : (0 : Int) ≤ (k : Int) := by omega
        have i1 : (k : Int) < 4 := by omega
        have m1 : w1.heap.size < wr.heap.size := by omega
        have m2 : w2.heap.size < wr.heap.size := by omega
        have n1 : ¬ w1.heap.size = wr.heap.size := by omega
        have n2 : ¬ wr.heap.size = w1.heap.size := by omega
        have n3 : ¬ w2.heap.size = wr.heap.size := by omega
        have n4 : ¬ wr.heap.size = w2.heap.size := by omega
        clear hbw
        cases hs : ssB a o k
        · have HS : Hid (ssB a o (k + 1) = false) := ssB_no hs
          go_wp2
          go_roundw
          case rel => exact ⟨k + 1, by go_num, by omega, by rw [HS.out], by (repeat' first | (with_reducible exact HBW.out) | (with_reducible refine Below.setCell ?_ (by show _ ≤ _; first | omega | (simp; done) | (simp <;> omega)) _) | (with_reducible refine Below.alloc ?_ (by first | omega | (simp; done) | (simp <;> omega)) _))⟩
          case measure => simp [intOf]; omega
        · skip
          by_cases t0 : (a.get k).re < 10000
          case neg =>
            have HS : Hid (ssB a o (k + 1) = false) := ssB_bad (decide_eq_false (fun ⟨x0, x1, x2, x3, x4, x5, x6, x7, x8, x9⟩ => t0 x0))
            go_wp2
            go_roundw
            case rel => exact ⟨k + 1, by go_num, by omega, by rw [HS.out], by (repeat' first | (with_reducible exact HBW.out) | (with_reducible refine Below.setCell ?_ (by show _ ≤ _; first | omega | (simp; done) | (simp <;> omega)) _) | (with_reducible refine Below.alloc ?_ (by first | omega | (simp; done) | (simp <;> omega)) _))⟩
            case measure => simp [intOf]; omega
          by_cases t1 : (-10000 : Int) < (a.get k).re
          case neg =>
            have HS : Hid (ssB a o (k + 1) = false) := ssB_bad (decide_eq_false (fun ⟨x0, x1, x2, x3, x4, x5, x6, x7, x8, x9⟩ => t1 x1))
            go_wp2
            go_roundw
            case rel => exact ⟨k + 1, by go_num, by omega, by rw [HS.out], by (repeat' first | (with_reducible exact HBW.out) | (with_reducible refine Below.setCell ?_ (by show _ ≤ _; first | omega | (simp; done) | (simp <;> omega)) _) | (with_reducible refine Below.alloc ?_ (by first | omega | (simp; done) | (simp <;> omega)) _))⟩
            case measure => simp [intOf]; omega
          by_cases t2 : (a.get k).im < 10000
          case neg =>
            have HS : Hid (ssB a o (k + 1) = false) := ssB_bad (decide_eq_false (fun ⟨x0, x1, x2, x3, x4, x5, x6, x7, x8, x9⟩ => t2 x2))
            go_wp2
            go_roundw
            case rel => exact ⟨k + 1, by go_num, by omega, by rw [HS.out], by (repeat' first | (with_reducible exact HBW.out) | (with_reducible refine Below.setCell ?_ (by show _ ≤ _; first | omega | (simp; done) | (simp <;> omega)) _) | (with_reducible refine Below.alloc ?_ (by first | omega | (simp; done) | (simp <;> omega)) _))⟩
            case measure => simp [intOf]; omega
          by_cases t3 : (-10000 : Int) < (a.get k).im
          case neg =>
            have HS : Hid (ssB a o (k + 1) = false) := ssB_bad (decide_eq_false (fun ⟨x0, x1, x2, x3, x4, x5, x6, x7, x8, x9⟩ => t3 x3))
            go_wp2
            go_roundw
            case rel => exact ⟨k + 1, by go_num, by omega, by rw [HS.out], by (repeat' first | (with_reducible exact HBW.out) | (with_reducible refine Below.setCell ?_ (by show _ ≤ _; first | omega | (simp; done) | (simp <;> omega)) _) | (with_reducible refine Below.alloc ?_ (by first | omega | (simp; done) | (simp <;> omega)) _))⟩
            case measure => simp [intOf]; omega
          by_cases t4 : (a.get k).den < 10000
          case neg =>
            have HS : Hid (ssB a o (k + 1) = false) := ssB_bad (decide_eq_false (fun ⟨x0, x1, x2, x3, x4, x5, x6, x7, x8, x9⟩ => t4 x4))
            go_wp2
            go_roundw
            case rel => exact ⟨k + 1, by go_num, by omega, by rw [HS.out], by (repeat' first | (with_reducible exact HBW.out) | (with_reducible refine Below.setCell ?_ (by show _ ≤ _; first | omega | (simp; done) | (simp <;> omega)) _) | (with_reducible refine Below.alloc ?_ (by first | omega | (simp; done) | (simp <;> omega)) _))⟩
            case measure => simp [intOf]; omega
          by_cases t5 : (o.get k).re < 10000
          case neg =>
            have HS : Hid (ssB a o (k + 1) = false) := ssB_bad (decide_eq_false (fun ⟨x0, x1, x2, x3, x4, x5, x6, x7, x8, x9⟩ => t5 x5))
            go_wp2
            go_roundw
            case rel => exact ⟨k + 1, by go_num, by omega, by rw [HS.out], by (repeat' first | (with_reducible exact HBW.out) | (with_reducible refine Below.setCell ?_ (by show _ ≤ _; first | omega | (simp; done) | (simp <;> omega)) _) | (with_reducible refine Below.alloc ?_ (by first | omega | (simp; done) | (simp <;> omega)) _))⟩
            case measure => simp [intOf]; omega
          by_cases t6 : (-10000 : Int) < (o.get k).re
          case neg =>
            have HS : Hid (ssB a o (k + 1) = false) := ssB_bad (decide_eq_false (fun ⟨x0, x1, x2, x3, x4, x5, x6, x7, x8, x9⟩ => t6 x6))
            go_wp2
            go_roundw
            case rel => exact ⟨k + 1, by go_num, by omega, by rw [HS.out], by (repeat' first | (with_reducible exact HBW.out) | (with_reducible refine Below.setCell ?_ (by show _ ≤ _; first | omega | (simp; done) | (simp <;> omega)) _) | (with_reducible refine Below.alloc ?_ (by first | omega | (simp; done) | (simp <;> omega)) _))⟩
            case measure => simp [intOf]; omega
          by_cases t7 : (o.get k).im < 10000
          case neg =>
            have HS : Hid (ssB a o (k + 1) = false) := ssB_bad (decide_eq_false (fun ⟨x0, x1, x2, x3, x4, x5, x6, x7, x8, x9⟩ => t7 x7))
            go_wp2
            go_roundw
            case rel => exact ⟨k + 1, by go_num, by omega, by rw [HS.out], by (repeat' first | (with_reducible exact HBW.out) | (with_reducible refine Below.setCell ?_ (by show _ ≤ _; first | omega | (simp; done) | (simp <;> omega)) _) | (with_reducible refine Below.alloc ?_ (by first | omega | (simp; done) | (simp <;> omega)) _))⟩
            case measure => simp [intOf]; omega
          by_cases t8 : (-10000 : Int) < (o.get k).im
          case neg =>
            have HS : Hid (ssB a o (k + 1) = false) := ssB_bad (decide_eq_false (fun ⟨x0, x1, x2, x3, x4, x5, x6, x7, x8, x9⟩ => t8 x8))
            go_wp2
            go_roundw
            case rel => exact ⟨k + 1, by go_num, by omega, by rw [HS.out], by (repeat' first | (with_reducible exact HBW.out) | (with_reducible refine Below.setCell ?_ (by show _ ≤ _; first | omega | (simp; done) | (simp <;> omega)) _) | (with_reducible refine Below.alloc ?_ (by first | omega | (simp; done) | (simp <;> omega)) _))⟩
            case measure => simp [intOf]; omega
          by_cases t9 : (o.get k).den < 10000
          case neg =>
            have HS : Hid (ssB a o (k + 1) = false) := ssB_bad (decide_eq_false (fun ⟨x0, x1, x2, x3, x4, x5, x6, x7, x8, x9⟩ => t9 x9))
            go_wp2
            go_roundw
            case rel => exact ⟨k + 1, by go_num, by omega, by rw [HS.out], by (repeat' first | (with_reducible exact HBW.out) | (with_reducible refine Below.setCell ?_ (by show _ ≤ _; first | omega | (simp; done) | (simp <;> omega)) _) | (with_reducible refine Below.alloc ?_ (by first | omega | (simp; done) | (simp <;> omega)) _))⟩
            case measure => simp [intOf]; omega
          have HS : Hid (ssB a o (k + 1) = true) := ssB_yes hs (decide_eq_true ⟨t0, t1, t2, t3, t4, t5, t6, t7, t8, t9⟩)
          go_wp2
          go_roundw
          case rel => exact ⟨k + 1, by go_num, by omega, by rw [HS.out], by (repeat' first | (with_reducible exact HBW.out) | (with_reducible refine Below.setCell ?_ (by show _ ≤ _; first | omega | (simp; done) | (simp <;> omega)) _) | (with_reducible refine Below.alloc ?_ (by first | omega | (simp; done) | (simp <;> omega)) _))⟩
          case measure => simp [intOf]; omega
      obtain rfl : k = 4 := by omega
      clear h4 hk
      obtain ⟨w5, hW⟩ : ∃ W, W = wr := ⟨_, rfl⟩
      rw [← hW] at hbw hzr
      rw [← hW]
      clear hW HBW
      have HB := Lib.hid (show Below w.heap.size w w5 from HB.out.trans (hbw.mono HB.out.size))
      have Ha : Hid (w5.rangeAt (w1.heap.size) 0 [.int .i64 a.a.re, .int .i64 a.a.im, .int .i64 a.a.den, .int .i64 a.b.re, .int .i64 a.b.im, .int .i64 a.b.den, .int .i64 a.c.re, .int .i64 a.c.im, .int .i64 a.c.den, .int .i64 a.d.re, .int .i64 a.d.im, .int .i64 a.d.den]) := rangeAt_below Ha.out hbw (by omega)
      have Hc : Hid (w5.rangeAt (w1.heap.size + 1) 0 [.int .i64 c.re, .int .i64 c.im, .int .i64 c.den]) := rangeAt_below Hc.out hbw (by omega)
      have Ho : Hid (w5.rangeAt (w2.heap.size) 0 [.int .i64 o.a.re, .int .i64 o.a.im, .int .i64 o.a.den, .int .i64 o.b.re, .int .i64 o.b.im, .int .i64 o.b.den, .int .i64 o.c.re, .int .i64 o.c.im, .int .i64 o.c.den, .int .i64 o.d.re, .int .i64 o.d.im, .int .i64 o.d.den]) := rangeAt_below Ho.out hbw (by omega)
      have Hqq : Hid (w5.rangeAt (w3.heap.size) 0 [.int .i64 o.a.re, .int .i64 o.a.im, .int .i64 o.a.den, .int .i64 o.b.re, .int .i64 o.b.im, .int .i64 o.b.den, .int .i64 o.c.re, .int .i64 o.c.im, .int .i64 o.c.den, .int .i64 o.d.re, .int .i64 o.d.im, .int .i64 o.d.den]) := rangeAt_below Hqq.out hbw (by omega)
      clear hbw
      have nA0 : w1.heap.size < w5.heap.size := by omega
      have nB0 : ¬ w1.heap.size = w5.heap.size := by omega
      have nC0 : ¬ w5.heap.size = w1.heap.size := by omega
      have nA1 : w1.heap.size + 1 < w5.heap.size := by omega
      have nB1 : ¬ w1.heap.size + 1 = w5.heap.size := by omega
      have nC1 : ¬ w5.heap.size = w1.heap.size + 1 := by omega
      have nA2 : w2.heap.size < w5.heap.size := by omega
      have nB2 : ¬ w2.heap.size = w5.heap.size := by omega
      have nC2 : ¬ w5.heap.size = w2.heap.size := by omega
      have nA3 : w3.heap.size < w5.heap.size := by omega
      have nB3 : ¬ w3.heap.size = w5.heap.size := by omega
      have nC3 : ¬ w5.heap.size = w3.heap.size := by omega
      have zc_0 : w5.cell? ⟨w1.heap.size + 1, 0, none⟩ = some (.int .i64 c.re) := by have := Hc.out 0 _ rfl; rwa [Nat.zero_add] at this
      have zc_1 : w5.cell? ⟨w1.heap.size + 1, 1, none⟩ = some (.int .i64 c.im) := by have := Hc.out 1 _ rfl; rwa [Nat.zero_add] at this
      have zc_2 : w5.cell? ⟨w1.heap.size + 1, 2, none⟩ = some (.int .i64 c.den) := by have := Hc.out 2 _ rfl; rwa [Nat.zero_add] at this
      have za_0 : w5.cell? ⟨w1.heap.size, 0, none⟩ = some (.int .i64 a.a.re) := by have := Ha.out 0 _ rfl; rwa [Nat.zero_add] at this
      have za_1 : w5.cell? ⟨w1.heap.size, 1, none⟩ = some (.int .i64 a.a.im) := by have := Ha.out 1 _ rfl; rwa [Nat.zero_add] at this
      have za_2 : w5.cell? ⟨w1.heap.size, 2, none⟩ = some (.int .i64 a.a.den) := by have := Ha.out 2 _ rfl; rwa [Nat.zero_add] at this
      have za_3 : w5.cell? ⟨w1.heap.size, 3, none⟩ = some (.int .i64 a.b.re) := by have := Ha.out 3 _ rfl; rwa [Nat.zero_add] at this
      have za_4 : w5.cell? ⟨w1.heap.size, 4, none⟩ = some (.int .i64 a.b.im) := by have := Ha.out 4 _ rfl; rwa [Nat.zero_add] at this
      have za_5 : w5.cell? ⟨w1.heap.size, 5, none⟩ = some (.int .i64 a.b.den) := by have := Ha.out 5 _ rfl; rwa [Nat.zero_add] at this
      have za_6 : w5.cell? ⟨w1.heap.size, 6, none⟩ = some (.int .i64 a.c.re) := by have := Ha.out 6 _ rfl; rwa [Nat.zero_add] at this
      have za_7 : w5.cell? ⟨w1.heap.size, 7, none⟩ = some (.int .i64 a.c.im) := by have := Ha.out 7 _ rfl; rwa [Nat.zero_add] at this
      have za_8 : w5.cell? ⟨w1.heap.size, 8, none⟩ = some (.int .i64 a.c.den) := by have := Ha.out 8 _ rfl; rwa [Nat.zero_add] at this
      have za_9 : w5.cell? ⟨w1.heap.size, 9, none⟩ = some (.int .i64 a.d.re) := by have := Ha.out 9 _ rfl; rwa [Nat.zero_add] at this
      have za_10 : w5.cell? ⟨w1.heap.size, 10, none⟩ = some (.int .i64 a.d.im) := by have := Ha.out 10 _ rfl; rwa [Nat.zero_add] at this
      have za_11 : w5.cell? ⟨w1.heap.size, 11, none⟩ = some (.int .i64 a.d.den) := by have := Ha.out 11 _ rfl; rwa [Nat.zero_add] at this
      have zo_0 : w5.cell? ⟨w2.heap.size, 0, none⟩ = some (.int .i64 o.a.re) := by have := Ho.out 0 _ rfl; rwa [Nat.zero_add] at this
      have zo_1 : w5.cell? ⟨w2.heap.size, 1, none⟩ = some (.int .i64 o.a.im) := by have := Ho.out 1 _ rfl; rwa [Nat.zero_add] at this
      have zo_2 : w5.cell? ⟨w2.heap.size, 2, none⟩ = some (.int .i64 o.a.den) := by have := Ho.out 2 _ rfl; rwa [Nat.zero_add] at this
      have zo_3 : w5.cell? ⟨w2.heap.size, 3, none⟩ = some (.int .i64 o.b.re) := by have := Ho.out 3 _ rfl; rwa [Nat.zero_add] at this
      have zo_4 : w5.cell? ⟨w2.heap.size, 4, none⟩ = some (.int .i64 o.b.im) := by have := Ho.out 4 _ rfl; rwa [Nat.zero_add] at this
      have zo_5 : w5.cell? ⟨w2.heap.size, 5, none⟩ = some (.int .i64 o.b.den) := by have := Ho.out 5 _ rfl; rwa [Nat.zero_add] at this
      have zo_6 : w5.cell? ⟨w2.heap.size, 6, none⟩ = some (.int .i64 o.c.re) := by have := Ho.out 6 _ rfl; rwa [Nat.zero_add] at this
      have zo_7 : w5.cell? ⟨w2.heap.size, 7, none⟩ = some (.int .i64 o.c.im) := by have := Ho.out 7 _ rfl; rwa [Nat.zero_add] at this
      have zo_8 : w5.cell? ⟨w2.heap.size, 8, none⟩ = some (.int .i64 o.c.den) := by have := Ho.out 8 _ rfl; rwa [Nat.zero_add] at this
      have zo_9 : w5.cell? ⟨w2.heap.size, 9, none⟩ = some (.int .i64 o.d.re) := by have := Ho.out 9 _ rfl; rwa [Nat.zero_add] at this
      have zo_10 : w5.cell? ⟨w2.heap.size, 10, none⟩ = some (.int .i64 o.d.im) := by have := Ho.out 10 _ rfl; rwa [Nat.zero_add] at this
      have zo_11 : w5.cell? ⟨w2.heap.size, 11, none⟩ = some (.int .i64 o.d.den) := by have := Ho.out 11 _ rfl; rwa [Nat.zero_add] at this
      obtain ⟨zr, hzr2⟩ : ∃ z, z = (c.re == 0) := ⟨_, rfl⟩
      obtain ⟨zi, hzi⟩ : ∃ z, z = (c.im == 0) := ⟨_, rfl⟩
      have e1 := hzr2.symm
      have e2 := hzi.symm
      have HZZ : Hid ((zr && zi) = false → ¬ (c.re = 0 ∧ c.im = 0)) := fun hxy ⟨k1, k2⟩ => by rw [hzr2, hzi, k1, k2] at hxy; simp at hxy
      clear hzr2 hzi
      cases hs : ssB a o 4
      · skip
        cases zr <;> cases zi
        all_goals (go_wp2_with fail; go_ret; exact ⟨rfl, (by (repeat' first | (with_reducible exact HB.out) | with_reducible refine setCells_below _ _ _ ?_ (by first | omega | (simp <;> omega)) | with_reducible refine Below.setCell ?_ (by show _ ≤ _; first | omega | (simp <;> omega) | simp) _ | with_reducible refine Below.alloc ?_ (by first | omega | (simp <;> omega)) _ | with_reducible apply Below.drew | with_reducible refine below_drewN ?_ _))⟩)
      · skip
        have HSA := Lib.hid (fun z => HLA.out z (fun k hk => (ssB_all hs k hk).1) (fun k hk => (ssB_all hs k hk).2))
        clear hs
        by_cases hzz : (zr && zi) = true
        · cases zr <;> cases zi <;> first | (exact absurd hzz (by decide)) | skip
          go_wp2_with fail
          go_ret
          exact ⟨rfl, (by (repeat' first | (with_reducible exact HB.out) | with_reducible refine setCells_below _ _ _ ?_ (by first | omega | (simp <;> omega)) | with_reducible refine Below.setCell ?_ (by show _ ≤ _; first | omega | (simp <;> omega) | simp) _ | with_reducible refine Below.alloc ?_ (by first | omega | (simp <;> omega)) _ | with_reducible apply Below.drew | with_reducible refine below_drewN ?_ _))⟩
        have hal := HSA.out (HZZ.out (by simpa using hzz))
        cases zr <;> cases zi <;> first | (exact absurd rfl hzz) | skip
        all_goals clear hzz HZZ HSA
        · skip
          go_wp2_with fail
          refine (imal_any a o _ (HG_zero.out.below HB.out)).mono ?_
          rintro e w6 ho
          rw [hal] at ho
          obtain ⟨rfl, hb⟩ : e = .returned (.bool true) ∧ Below _ _ _ := (id ho)
          clear ho
          have HB := Lib.hid (show Below w.heap.size w w6 from HB.out.trans ((show Below _ _ _ from (Below.refl _ _)).trans (hb.mono (by first | omega | (simp <;> omega)))))
          have Ha : Hid (w6.rangeAt (w1.heap.size) 0 [.int .i64 a.a.re, .int .i64 a.a.im, .int .i64 a.a.den, .int .i64 a.b.re, .int .i64 a.b.im, .int .i64 a.b.den, .int .i64 a.c.re, .int .i64 a.c.im, .int .i64 a.c.den, .int .i64 a.d.re, .int .i64 a.d.im, .int .i64 a.d.den]) := rangeAt_below Ha.out hb (by first | omega | (simp; done) | (simp <;> omega))
          have Hc : Hid (w6.rangeAt (w1.heap.size + 1) 0 [.int .i64 c.re, .int .i64 c.im, .int .i64 c.den]) := rangeAt_below Hc.out hb (by first | omega | (simp; done) | (simp <;> omega))
          have Ho : Hid (w6.rangeAt (w2.heap.size) 0 [.int .i64 o.a.re, .int .i64 o.a.im, .int .i64 o.a.den, .int .i64 o.b.re, .int .i64 o.b.im, .int .i64 o.b.den, .int .i64 o.c.re, .int .i64 o.c.im, .int .i64 o.c.den, .int .i64 o.d.re, .int .i64 o.d.im, .int .i64 o.d.den]) := rangeAt_below Ho.out hb (by first | omega | (simp; done) | (simp <;> omega))
          have Hqq : Hid (w6.rangeAt (w3.heap.size) 0 [.int .i64 o.a.re, .int .i64 o.a.im, .int .i64 o.a.den, .int .i64 o.b.re, .int .i64 o.b.im, .int .i64 o.b.den, .int .i64 o.c.re, .int .i64 o.c.im, .int .i64 o.c.den, .int .i64 o.d.re, .int .i64 o.d.im, .int .i64 o.d.den]) := rangeAt_below Hqq.out hb (by first | omega | (simp; done) | (simp <;> omega))
          have hz6 := hb.size
          (try simp at hz6)
          clear hb
          have nA0 : w1.heap.size < w6.heap.size := by omega
          have nB0 : ¬ w1.heap.size = w6.heap.size := by omega
          have nC0 : ¬ w6.heap.size = w1.heap.size := by omega
          have nA1 : w1.heap.size + 1 < w6.heap.size := by omega
          have nB1 : ¬ w1.heap.size + 1 = w6.heap.size := by omega
          have nC1 : ¬ w6.heap.size = w1.heap.size + 1 := by omega
          have nA2 : w2.heap.size < w6.heap.size := by omega
          have nB2 : ¬ w2.heap.size = w6.heap.size := by omega
          have nC2 : ¬ w6.heap.size = w2.heap.size := by omega
          have nA3 : w3.heap.size < w6.heap.size := by omega
          have nB3 : ¬ w3.heap.size = w6.heap.size := by omega
          have nC3 : ¬ w6.heap.size = w3.heap.size := by omega
          go_wp2_with fail
          go_ret
          exact ⟨rfl, (by (repeat' first | (with_reducible exact HB.out) | with_reducible refine setCells_below _ _ _ ?_ (by first | omega | (simp <;> omega)) | with_reducible refine Below.setCell ?_ (by show _ ≤ _; first | omega | (simp <;> omega) | simp) _ | with_reducible refine Below.alloc ?_ (by first | omega | (simp <;> omega)) _ | with_reducible apply Below.drew | with_reducible refine below_drewN ?_ _))⟩
        · skip
          go_wp2_with fail
          refine (imal_any a o _ (HG_zero.out.below HB.out)).mono ?_
          rintro e w6 ho
          rw [hal] at ho
          obtain ⟨rfl, hb⟩ : e = .returned (.bool true) ∧ Below _ _ _ := (id ho)
          clear ho
          have HB := Lib.hid (show Below w.heap.size w w6 from HB.out.trans ((show Below _ _ _ from (Below.refl _ _)).trans (hb.mono (by first | omega | (simp <;> omega)))))
          have Ha : Hid (w6.rangeAt (w1.heap.size) 0 [.int .i64 a.a.re, .int .i64 a.a.im, .int .i64 a.a.den, .int .i64 a.b.re, .int .i64 a.b.im, .int .i64 a.b.den, .int .i64 a.c.re, .int .i64 a.c.im, .int .i64 a.c.den, .int .i64 a.d.re, .int .i64 a.d.im, .int .i64 a.d.den]) := rangeAt_below Ha.out hb (by first | omega | (simp; done) | (simp <;> omega))
          have Hc : Hid (w6.rangeAt (w1.heap.size + 1) 0 [.int .i64 c.re, .int .i64 c.im, .int .i64 c.den]) := rangeAt_below Hc.out hb (by first | omega | (simp; done) | (simp <;> omega))
          have Ho : Hid (w6.rangeAt (w2.heap.size) 0 [.int .i64 o.a.re, .int .i64 o.a.im, .int .i64 o.a.den, .int .i64 o.b.re, .int .i64 o.b.im, .int .i64 o.b.den, .int .i64 o.c.re, .int .i64 o.c.im, .int .i64 o.c.den, .int .i64 o.d.re, .int .i64 o.d.im, .int .i64 o.d.den]) := rangeAt_below Ho.out hb (by first | omega | (simp; done) | (simp <;> omega))
          have Hqq : Hid (w6.rangeAt (w3.heap.size) 0 [.int .i64 o.a.re, .int .i64 o.a.im, .int .i64 o.a.den, .int .i64 o.b.re, .int .i64 o.b.im, .int .i64 o.b.den, .int .i64 o.c.re, .int .i64 o.c.im, .int .i64 o.c.den, .int .i64 o.d.re, .int .i64 o.d.im, .int .i64 o.d.den]) := rangeAt_below Hqq.out hb (by first | omega | (simp; done) | (simp <;> omega))
          have hz6 := hb.size
          (try simp at hz6)
          clear hb
          have nA0 : w1.heap.size < w6.heap.size := by omega
          have nB0 : ¬ w1.heap.size = w6.heap.size := by omega
          have nC0 : ¬ w6.heap.size = w1.heap.size := by omega
          have nA1 : w1.heap.size + 1 < w6.heap.size := by omega
          have nB1 : ¬ w1.heap.size + 1 = w6.heap.size := by omega
          have nC1 : ¬ w6.heap.size = w1.heap.size + 1 := by omega
          have nA2 : w2.heap.size < w6.heap.size := by omega
          have nB2 : ¬ w2.heap.size = w6.heap.size := by omega
          have nC2 : ¬ w6.heap.size = w2.heap.size := by omega
          have nA3 : w3.heap.size < w6.heap.size := by omega
          have nB3 : ¬ w3.heap.size = w6.heap.size := by omega
          have nC3 : ¬ w6.heap.size = w3.heap.size := by omega
          go_wp2_with fail
          go_ret
          exact ⟨rfl, (by (repeat' first | (with_reducible exact HB.out) | with_reducible refine setCells_below _ _ _ ?_ (by first | omega | (simp <;> omega)) | with_reducible refine Below.setCell ?_ (by show _ ≤ _; first | omega | (simp <;> omega) | simp) _ | with_reducible refine Below.alloc ?_ (by first | omega | (simp <;> omega)) _ | with_reducible apply Below.drew | with_reducible refine below_drewN ?_ _))⟩
        · skip
          go_wp2_with fail
          refine (imal_any a o _ (HG_zero.out.below HB.out)).mono ?_
          rintro e w6 ho
          rw [hal] at ho
          obtain ⟨rfl, hb⟩ : e = .returned (.bool true) ∧ Below _ _ _ := (id ho)
          clear ho
          have HB := Lib.hid (show Below w.heap.size w w6 from HB.out.trans ((show Below _ _ _ from (Below.refl _ _)).trans (hb.mono (by first | omega | (simp <;> omega)))))
          have Ha : Hid (w6.rangeAt (w1.heap.size) 0 [.int .i64 a.a.re, .int .i64 a.a.im, .int .i64 a.a.den, .int .i64 a.b.re, .int .i64 a.b.im, .int .i64 a.b.den, .int .i64 a.c.re, .int .i64 a.c.im, .int .i64 a.c.den, .int .i64 a.d.re, .int .i64 a.d.im, .int .i64 a.d.den]) := rangeAt_below Ha.out hb (by first | omega | (simp; done) | (simp <;> omega))
          have Hc : Hid (w6.rangeAt (w1.heap.size + 1) 0 [.int .i64 c.re, .int .i64 c.im, .int .i64 c.den]) := rangeAt_below Hc.out hb (by first | omega | (simp; done) | (simp <;> omega))
          have Ho : Hid (w6.rangeAt (w2.heap.size) 0 [.int .i64 o.a.re, .int .i64 o.a.im, .int .i64 o.a.den, .int .i64 o.b.re, .int .i64 o.b.im, .int .i64 o.b.den, .int .i64 o.c.re, .int .i64 o.c.im, .int .i64 o.c.den, .int .i64 o.d.re, .int .i64 o.d.im, .int .i64 o.d.den]) := rangeAt_below Ho.out hb (by first | omega | (simp; done) | (simp <;> omega))
          have Hqq : Hid (w6.rangeAt (w3.heap.size) 0 [.int .i64 o.a.re, .int .i64 o.a.im, .int .i64 o.a.den, .int .i64 o.b.re, .int .i64 o.b.im, .int .i64 o.b.den, .int .i64 o.c.re, .int .i64 o.c.im, .int .i64 o.c.den, .int .i64 o.d.re, .int .i64 o.d.im, .int .i64 o.d.den]) := rangeAt_below Hqq.out hb (by first | omega | (simp; done) | (simp <;> omega))
          have hz6 := hb.size
          (try simp at hz6)
          clear hb
          have nA0 : w1.heap.size < w6.heap.size := by omega
          have nB0 : ¬ w1.heap.size = w6.heap.size := by omega
          have nC0 : ¬ w6.heap.size = w1.heap.size := by omega
          have nA1 : w1.heap.size + 1 < w6.heap.size := by omega
          have nB1 : ¬ w1.heap.size + 1 = w6.heap.size := by omega
          have nC1 : ¬ w6.heap.size = w1.heap.size + 1 := by omega
          have nA2 : w2.heap.size < w6.heap.size := by omega
          have nB2 : ¬ w2.heap.size = w6.heap.size := by omega
          have nC2 : ¬ w6.heap.size = w2.heap.size := by omega
          have nA3 : w3.heap.size < w6.heap.size := by omega
          have nB3 : ¬ w3.heap.size = w6.heap.size := by omega
          have nC3 : ¬ w6.heap.size = w3.heap.size := by omega
          go_wp2_with fail
          go_ret
          exact ⟨rfl, (by (repeat' first | (with_reducible exact HB.out) | with_reducible refine setCells_below _ _ _ ?_ (by first | omega | (simp <;> omega)) | with_reducible refine Below.setCell ?_ (by show _ ≤ _; first | omega | (simp <;> omega) | simp) _ | with_reducible refine Below.alloc ?_ (by first | omega | (simp <;> omega)) _ | with_reducible apply Below.drew | with_reducible refine below_drewN ?_ _))⟩
set_option maxRecDepth 100000 in
theorem door_FnScale (os : Os) (args : Array Value) : laidMetH Tryd.prog Rows.fnScaleRow.laid ((World.doorLaid Tryd.prog 43 os).forCall (fun _ _ => 0) ⟨#[], args, []⟩).memory :=
  laidMetH_of_parts3 (fuel := 8) (laidMet_of_run' 8 (by kernel_rfl) (by kernel_rfl)) (by kernel_rfl) (by kernel_rfl)
set_option maxRecDepth 100000 in
theorem lifted_FnScale (os : Os) (started : os.Started) (H : Type) (enc : TypeId × Value → H) :
    ReturnsInHanded {} Tryd.checked os 13 .any (fun w args => (Rows.fnScaleSpec.pre enc Tryd.prog Tryd.f13 [] false w args ∧ laidMetH Tryd.prog Rows.fnScaleRow.laid w) ∧ sizedMet enc Tryd.prog Tryd.f13 (OpenSpec.ofChange Rows.fnScaleSpec) false w args) (Rows.fnScaleSpec.post enc Tryd.prog Tryd.f13 false true false false) := by
  refine returnsInHanded_of_change_and (C := Tryd.checked) (X := fun w _ => laidMetH Tryd.prog Rows.fnScaleRow.laid w) (fun _ _ _ hh h => h.of_heap hh) Tryd.own started (by kernel_rfl) Tryd.func13
    (ChangeSpec.witness_shaped (enc := enc) (C := Tryd.checked) (os := os) (X := fun w _ => laidMetH Tryd.prog Rows.fnScaleRow.laid w) false (World.doorLaid Tryd.prog 43 os) #[.slice none 0 0] 8 rfl (World.shaped_of_RefB (by kernel_rfl) (by kernel_rfl)) (by kernel_rfl) (by kernel_rfl) (by kernel_rfl) (door_FnScale os _)) ?_
  intro W base args ds gs before hval0 hW _ _ hL _
  have hval : ∀ (j : Nat) t v, Tryd.f13.params[j]? = some t → args[j]? = some v → Value.okWide Tryd.prog W .any base t v := hval0
  have hW' := hW
  obtain ⟨p, q, hA0, hV, rfl, hfz, hnd⟩ := hW
  have hA : DataW.TrodAll enc Tryd.prog W 0 (fun _ => true) true Tryd.f13.params.toList args.toList ds p := hA0
  rw [Tryd.params13] at hA hval
  obtain ⟨v0, d0, rfl, rfl, h0⟩ := trodAll_one hA
  obtain ⟨g0, rfl⟩ := len1 (vars_len hV)
  have hG_zero := gat_zero hL (by decide) (by simp [Rows.fnScaleRow, Rows.laid_loop_example_polarisedlight_impl_zero])
  have h0k := h0
  obtain ⟨fuel, hf⟩ := h0
  clear hA0 hval0
  have hlt : ∀ x ∈ p, x.block < W.heap.size := fun x hx => by simpa using hW'.lt x (List.mem_append_left _ hx)
  obtain ⟨a0, len, cap, rfl⟩ := okWide_slice Tryd.underlying55 (hval 0 55 v0 rfl rfl)
  obtain ⟨hcap, HC⟩ := open_code hf hlt
  refine (walk_FnScale a0 len cap W hcap HC hG_zero).mono fun e W' ⟨he, hb⟩ => ?_
  subst he
  refine ⟨_, rfl, _, _, _, [], p, q, hW', trodAll_mk1 (shut_bool Tryd.underlying4 _), trodAll_mk1 (Below.trod Tryd.laidOut (by kernel_rfl) (of_decide_eq_true (by kernel_rfl)) h0k hb (fun x hx => hlt x (by simp [hx]))), Below.trodVars Tryd.laidOut hb (by kernel_rfl) hV, hb.frame _, fun h => by cases h⟩
theorem said_FnScale : Rows.FnScaleSaid :=
  OpenClaim.holds_of_wide 13 Tryd.f13 rfl rfl rfl rfl rfl rfl rfl ⟨rfl, rfl, rfl, rfl, rfl⟩ rfl rfl rfl rfl rfl (by kernel_rfl) Tryd.func13 (by kernel_rfl)
    (of_decide_eq_true (by kernel_rfl)) (by unfold Func.isWrapper; first | (rw [if_pos (by decide +kernel)]; kernel_rfl) | (rw [if_neg (by decide +kernel)]; exact ⟨rfl, rfl⟩))
    (fun os started H enc _ => lifted_FnScale os started H enc)
set_option maxRecDepth 100000 in
/-- THE STATEMENT: THE CARD. -/
theorem holds_FnScale : Rows.FnScaleCardSaid :=
  Claim7.holds_tied_plain_at .later [] [.data] true (true, "4641a63997bae2f3f605d4183781842987cd6e93f60671f0fe7f4fb0ecf64798") false
    said_FnScale (fun _ h => by cases h) (by kernel_rfl) (fun _ h => by cases h) fnScale_row_tie rfl ⟨rfl, rfl⟩ (by kernel_rfl) rfl
    (fun f fn hf hfn => by
      obtain rfl : f = 13 := Option.some.inj ((show Tryd.prog.funcNamed "loop.example/polarisedlight/laws.FnScale" = some 13 by kernel_rfl).symm.trans hf) |>.symm
      obtain rfl : fn = Tryd.f13 := (Option.some.inj (Tryd.func13.symm.trans hfn)).symm
      exact ⟨by kernel_rfl, fun j t ht => by
        rw [Tryd.params13] at ht
        have hm : t ∈ [55] := by simpa using Array.mem_of_getElem? ht
        have hall : ([55].all fun u => !Tryd.prog.wantsStandIn u) = true := by kernel_rfl
        exact (show Tryd.prog.wantsStandIn t = false by simpa using List.all_eq_true.1 hall t hm)⟩)
    (by kernel_rfl)
end Go.Proofs.YtmcokdiopcpifaaDoor
