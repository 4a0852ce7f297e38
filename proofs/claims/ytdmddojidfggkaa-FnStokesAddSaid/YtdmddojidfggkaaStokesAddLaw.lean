/- Light on light is light. -/
import Derived.Test.YtdmddojidfggkaaDW
import Derived.Test.YtdmddojidfggkaaQD
import Derived.Test.YtdmddojidfggkaaDW2
namespace Go.Proofs.Ytdmddojidfggkaa
open Go.ChangeShapes Go.WideShapes Go.ChangeAt Go.RowKit Pol

set_option maxRecDepth 100000 in
set_option maxHeartbeats 40000000 in
theorem walk_FnStokesAdd (a0 : Option Addr) (len cap : Nat) (w : World) (hcap : len ≤ cap) (HC : Code w.heap.size w a0 len) :
    Calls Try.prog 7 #[.slice a0 len cap] w fun e w' => e = .returned (.bool true) ∧ Below w.heap.size w w' := by
  by_cases hbig : 1048576 < len
  · have h1 : (1048576 : Int) < (len : Int) := by omega
    go_enter Try.func7, Try.ntmps7
    go_wp2
    go_ret
    exact ⟨rfl, Below.refl _ _⟩
  have h1 : ¬ (1048576 : Int) < (len : Int) := by omega
  go_enter Try.func7, Try.ntmps7
  go_wp2_with fail
  refine (DrawStokesAdd_any a0 len cap _ hcap HC).mono ?_
  rintro e w1 ⟨a, b, rfl, hb⟩
  have HB := Lib.hid (show Below w.heap.size w w1 from hb)
  have hz1 := hb.size
  (try simp at hz1)
  clear hb
  cases hg : (sAdd a b).2
  · skip
    have HG : Hid (sAdd a b = (m4z, false)) := gt_no hg
    go_wp2_with (first | ((with_reducible refine wpList_load_mid ?kl101 27 ?kl10x ?kl102 (w1.heap.size) 0 ?kl103 [.int .i64 a.a.re, .int .i64 a.a.im, .int .i64 a.a.den, .int .i64 a.b.re, .int .i64 a.b.im, .int .i64 a.b.den, .int .i64 a.c.re, .int .i64 a.c.im, .int .i64 a.c.den, .int .i64 a.d.re, .int .i64 a.d.im, .int .i64 a.d.den] ?kl10d ?kl104 ?kl105 ?kl106 ?kl107 ?kl108); (case kl102 => rfl); (case kl101 => rfl); (case kl103 => rfl); (case kl104 => (exact (World.rangeAt_alloc (rangeAt_new _ _ _) _))); (case kl105 => exact Try.underlying27); (case kl106 => rfl); (case kl107 => kernel_rfl)) | ((with_reducible refine wpList_load_mid ?kl111 27 ?kl11x ?kl112 (w1.heap.size + 1) 0 ?kl113 [.int .i64 b.a.re, .int .i64 b.a.im, .int .i64 b.a.den, .int .i64 b.b.re, .int .i64 b.b.im, .int .i64 b.b.den, .int .i64 b.c.re, .int .i64 b.c.im, .int .i64 b.c.den, .int .i64 b.d.re, .int .i64 b.d.im, .int .i64 b.d.den] ?kl11d ?kl114 ?kl115 ?kl116 ?kl117 ?kl118); (case kl112 => rfl); (case kl111 => rfl); (case kl113 => rfl); (case kl114 => (exact (rangeAt_new2 (by simp)))); (case kl115 => exact Try.underlying27); (case kl116 => rfl); (case kl117 => kernel_rfl)))
    refine (iadd4_any a b _).mono ?_
    rintro e w2 ho
    rw [HG.out] at ho
    obtain ⟨rfl, hb⟩ : e = .returned (.tuple #[.agg #[.int .i64 m4z.a.re, .int .i64 m4z.a.im, .int .i64 m4z.a.den, .int .i64 m4z.b.re, .int .i64 m4z.b.im, .int .i64 m4z.b.den, .int .i64 m4z.c.re, .int .i64 m4z.c.im, .int .i64 m4z.c.den, .int .i64 m4z.d.re, .int .i64 m4z.d.im, .int .i64 m4z.d.den], .bool false]) ∧ Below _ _ _ := ho.fn
    clear ho
    have HB := Lib.hid (show Below w.heap.size w w2 from HB.out.trans ((show Below _ _ _ from (((Below.refl _ _).alloc (by omega) _).alloc (by first | omega | (simp; done) | (simp <;> omega)) _)).trans (hb.mono (by first | omega | (simp <;> omega)))))
    have Ha : Hid (w2.rangeAt w1.heap.size 0 [.int .i64 a.a.re, .int .i64 a.a.im, .int .i64 a.a.den, .int .i64 a.b.re, .int .i64 a.b.im, .int .i64 a.b.den, .int .i64 a.c.re, .int .i64 a.c.im, .int .i64 a.c.den, .int .i64 a.d.re, .int .i64 a.d.im, .int .i64 a.d.den]) := rangeAt_below (World.rangeAt_alloc (rangeAt_new _ _ _) _) hb (by first | omega | (simp; done) | (simp <;> omega))
    have Hb : Hid (w2.rangeAt (w1.heap.size + 1) 0 [.int .i64 b.a.re, .int .i64 b.a.im, .int .i64 b.a.den, .int .i64 b.b.re, .int .i64 b.b.im, .int .i64 b.b.den, .int .i64 b.c.re, .int .i64 b.c.im, .int .i64 b.c.den, .int .i64 b.d.re, .int .i64 b.d.im, .int .i64 b.d.den]) := rangeAt_below (rangeAt_new2 (by simp)) hb (by first | omega | (simp; done) | (simp <;> omega))
    have hz2 := hb.size
    (try simp at hz2)
    clear hb
    have nA0 : w1.heap.size < w2.heap.size := by omega
    have nB0 : ¬ w1.heap.size = w2.heap.size := by omega
    have nC0 : ¬ w2.heap.size = w1.heap.size := by omega
    have nA1 : w1.heap.size + 1 < w2.heap.size := by omega
    have nB1 : ¬ w1.heap.size + 1 = w2.heap.size := by omega
    have nC1 : ¬ w2.heap.size = w1.heap.size + 1 := by omega
    go_wp2_with (first | ((with_reducible refine wpList_load_mid ?kl121 27 ?kl12x ?kl122 (w1.heap.size) 0 ?kl123 [.int .i64 a.a.re, .int .i64 a.a.im, .int .i64 a.a.den, .int .i64 a.b.re, .int .i64 a.b.im, .int .i64 a.b.den, .int .i64 a.c.re, .int .i64 a.c.im, .int .i64 a.c.den, .int .i64 a.d.re, .int .i64 a.d.im, .int .i64 a.d.den] ?kl12d ?kl124 ?kl125 ?kl126 ?kl127 ?kl128); (case kl122 => rfl); (case kl121 => rfl); (case kl123 => rfl); (case kl124 => (exact (World.rangeAt_alloc Ha.out _))); (case kl125 => exact Try.underlying27); (case kl126 => rfl); (case kl127 => kernel_rfl)) | ((with_reducible refine wpList_load_mid ?kl131 27 ?kl13x ?kl132 (w1.heap.size + 1) 0 ?kl133 [.int .i64 b.a.re, .int .i64 b.a.im, .int .i64 b.a.den, .int .i64 b.b.re, .int .i64 b.b.im, .int .i64 b.b.den, .int .i64 b.c.re, .int .i64 b.c.im, .int .i64 b.c.den, .int .i64 b.d.re, .int .i64 b.d.im, .int .i64 b.d.den] ?kl13d ?kl134 ?kl135 ?kl136 ?kl137 ?kl138); (case kl132 => rfl); (case kl131 => rfl); (case kl133 => rfl); (case kl134 => (exact (World.rangeAt_alloc Hb.out _))); (case kl135 => exact Try.underlying27); (case kl136 => rfl); (case kl137 => kernel_rfl)))
    refine (sadd4_any a b _).mono ?_
    rintro e w3 ho
    rw [HG.out] at ho
    obtain ⟨rfl, hb⟩ : e = .returned (.tuple #[.agg #[.int .i64 m4z.a.re, .int .i64 m4z.a.im, .int .i64 m4z.a.den, .int .i64 m4z.b.re, .int .i64 m4z.b.im, .int .i64 m4z.b.den, .int .i64 m4z.c.re, .int .i64 m4z.c.im, .int .i64 m4z.c.den, .int .i64 m4z.d.re, .int .i64 m4z.d.im, .int .i64 m4z.d.den], .bool false]) ∧ Below _ _ _ := ho.fn
    clear ho
    have HB := Lib.hid (show Below w.heap.size w w3 from HB.out.trans ((show Below _ _ _ from ((Below.refl _ _).alloc (by omega) _)).trans (hb.mono (by first | omega | (simp <;> omega)))))
    have Ha : Hid (w3.rangeAt (w1.heap.size) 0 [.int .i64 a.a.re, .int .i64 a.a.im, .int .i64 a.a.den, .int .i64 a.b.re, .int .i64 a.b.im, .int .i64 a.b.den, .int .i64 a.c.re, .int .i64 a.c.im, .int .i64 a.c.den, .int .i64 a.d.re, .int .i64 a.d.im, .int .i64 a.d.den]) := rangeAt_below (World.rangeAt_alloc Ha.out _) hb (by first | omega | (simp; done) | (simp <;> omega))
    have Hb : Hid (w3.rangeAt (w1.heap.size + 1) 0 [.int .i64 b.a.re, .int .i64 b.a.im, .int .i64 b.a.den, .int .i64 b.b.re, .int .i64 b.b.im, .int .i64 b.b.den, .int .i64 b.c.re, .int .i64 b.c.im, .int .i64 b.c.den, .int .i64 b.d.re, .int .i64 b.d.im, .int .i64 b.d.den]) := rangeAt_below (World.rangeAt_alloc Hb.out _) hb (by first | omega | (simp; done) | (simp <;> omega))
    have Ho : Hid (w3.rangeAt w2.heap.size 0 [.int .i64 m4z.a.re, .int .i64 m4z.a.im, .int .i64 m4z.a.den, .int .i64 m4z.b.re, .int .i64 m4z.b.im, .int .i64 m4z.b.den, .int .i64 m4z.c.re, .int .i64 m4z.c.im, .int .i64 m4z.c.den, .int .i64 m4z.d.re, .int .i64 m4z.d.im, .int .i64 m4z.d.den]) := rangeAt_below (rangeAt_new _ _ _) hb (by first | omega | (simp; done) | (simp <;> omega))
    have hz3 := hb.size
    (try simp at hz3)
    clear hb
    have nA0 : w1.heap.size < w3.heap.size := by omega
    have nB0 : ¬ w1.heap.size = w3.heap.size := by omega
    have nC0 : ¬ w3.heap.size = w1.heap.size := by omega
    have nA1 : w1.heap.size + 1 < w3.heap.size := by omega
    have nB1 : ¬ w1.heap.size + 1 = w3.heap.size := by omega
    have nC1 : ¬ w3.heap.size = w1.heap.size + 1 := by omega
    have nA2 : w2.heap.size < w3.heap.size := by omega
    have nB2 : ¬ w2.heap.size = w3.heap.size := by omega
    have nC2 : ¬ w3.heap.size = w2.heap.size := by omega
    have hEq1 : ∀ w, (Op.equalIn 10000 27 (.agg #[.int .i64 m4z.a.re, .int .i64 m4z.a.im, .int .i64 m4z.a.den, .int .i64 m4z.b.re, .int .i64 m4z.b.im, .int .i64 m4z.b.den, .int .i64 m4z.c.re, .int .i64 m4z.c.im, .int .i64 m4z.c.den, .int .i64 m4z.d.re, .int .i64 m4z.d.im, .int .i64 m4z.d.den]) (.agg #[.int .i64 m4z.a.re, .int .i64 m4z.a.im, .int .i64 m4z.a.den, .int .i64 m4z.b.re, .int .i64 m4z.b.im, .int .i64 m4z.b.den, .int .i64 m4z.c.re, .int .i64 m4z.c.im, .int .i64 m4z.c.den, .int .i64 m4z.d.re, .int .i64 m4z.d.im, .int .i64 m4z.d.den])).run Try.prog w = .ok true w := eqStokes_run m4z
    have zo_0 : w3.cell? ⟨w2.heap.size, 0, none⟩ = some (.int .i64 m4z.a.re) := by have := Ho.out 0 _ rfl; rwa [Nat.zero_add] at this
    have zo_1 : w3.cell? ⟨w2.heap.size, 1, none⟩ = some (.int .i64 m4z.a.im) := by have := Ho.out 1 _ rfl; rwa [Nat.zero_add] at this
    have zo_2 : w3.cell? ⟨w2.heap.size, 2, none⟩ = some (.int .i64 m4z.a.den) := by have := Ho.out 2 _ rfl; rwa [Nat.zero_add] at this
    have zo_3 : w3.cell? ⟨w2.heap.size, 3, none⟩ = some (.int .i64 m4z.b.re) := by have := Ho.out 3 _ rfl; rwa [Nat.zero_add] at this
    have zo_4 : w3.cell? ⟨w2.heap.size, 4, none⟩ = some (.int .i64 m4z.b.im) := by have := Ho.out 4 _ rfl; rwa [Nat.zero_add] at this
    have zo_5 : w3.cell? ⟨w2.heap.size, 5, none⟩ = some (.int .i64 m4z.b.den) := by have := Ho.out 5 _ rfl; rwa [Nat.zero_add] at this
    have zo_6 : w3.cell? ⟨w2.heap.size, 6, none⟩ = some (.int .i64 m4z.c.re) := by have := Ho.out 6 _ rfl; rwa [Nat.zero_add] at this
    have zo_7 : w3.cell? ⟨w2.heap.size, 7, none⟩ = some (.int .i64 m4z.c.im) := by have := Ho.out 7 _ rfl; rwa [Nat.zero_add] at this
    have zo_8 : w3.cell? ⟨w2.heap.size, 8, none⟩ = some (.int .i64 m4z.c.den) := by have := Ho.out 8 _ rfl; rwa [Nat.zero_add] at this
    have zo_9 : w3.cell? ⟨w2.heap.size, 9, none⟩ = some (.int .i64 m4z.d.re) := by have := Ho.out 9 _ rfl; rwa [Nat.zero_add] at this
    have zo_10 : w3.cell? ⟨w2.heap.size, 10, none⟩ = some (.int .i64 m4z.d.im) := by have := Ho.out 10 _ rfl; rwa [Nat.zero_add] at this
    have zo_11 : w3.cell? ⟨w2.heap.size, 11, none⟩ = some (.int .i64 m4z.d.den) := by have := Ho.out 11 _ rfl; rwa [Nat.zero_add] at this
    go_wp2_with fail
    go_ret
    exact ⟨rfl, (by (repeat' first | (with_reducible exact HB.out) | with_reducible refine setCells_below _ _ _ ?_ (by first | omega | (simp <;> omega)) | with_reducible refine Below.setCell ?_ (by show _ ≤ _; first | omega | (simp <;> omega) | simp) _ | with_reducible refine Below.alloc ?_ (by first | omega | (simp <;> omega)) _ | with_reducible apply Below.drew))⟩
  · skip
    have hlaw := @law_add a b hg
    obtain ⟨m, hm⟩ : ∃ m, m = (sAdd a b).1 := ⟨_, rfl⟩
    have HG : Hid (sAdd a b = (m, true)) := by show _ = _; rw [hm, ← hg]
    have HG2 : Hid (sAdd b a = (m, true)) := by show _ = _; rw [sAdd_comm b a]; exact HG.out
    rw [← hm] at hlaw
    clear hm hg
    go_wp2_with (first | ((with_reducible refine wpList_load_mid ?kl141 27 ?kl14x ?kl142 (w1.heap.size) 0 ?kl143 [.int .i64 a.a.re, .int .i64 a.a.im, .int .i64 a.a.den, .int .i64 a.b.re, .int .i64 a.b.im, .int .i64 a.b.den, .int .i64 a.c.re, .int .i64 a.c.im, .int .i64 a.c.den, .int .i64 a.d.re, .int .i64 a.d.im, .int .i64 a.d.den] ?kl14d ?kl144 ?kl145 ?kl146 ?kl147 ?kl148); (case kl142 => rfl); (case kl141 => rfl); (case kl143 => rfl); (case kl144 => (exact (World.rangeAt_alloc (rangeAt_new _ _ _) _))); (case kl145 => exact Try.underlying27); (case kl146 => rfl); (case kl147 => kernel_rfl)) | ((with_reducible refine wpList_load_mid ?kl151 27 ?kl15x ?kl152 (w1.heap.size + 1) 0 ?kl153 [.int .i64 b.a.re, .int .i64 b.a.im, .int .i64 b.a.den, .int .i64 b.b.re, .int .i64 b.b.im, .int .i64 b.b.den, .int .i64 b.c.re, .int .i64 b.c.im, .int .i64 b.c.den, .int .i64 b.d.re, .int .i64 b.d.im, .int .i64 b.d.den] ?kl15d ?kl154 ?kl155 ?kl156 ?kl157 ?kl158); (case kl152 => rfl); (case kl151 => rfl); (case kl153 => rfl); (case kl154 => (exact (rangeAt_new2 (by simp)))); (case kl155 => exact Try.underlying27); (case kl156 => rfl); (case kl157 => kernel_rfl)))
    refine (iadd4_any a b _).mono ?_
    rintro e w2 ho
    rw [HG.out] at ho
    obtain ⟨rfl, hb⟩ : e = .returned (.tuple #[.agg #[.int .i64 m.a.re, .int .i64 m.a.im, .int .i64 m.a.den, .int .i64 m.b.re, .int .i64 m.b.im, .int .i64 m.b.den, .int .i64 m.c.re, .int .i64 m.c.im, .int .i64 m.c.den, .int .i64 m.d.re, .int .i64 m.d.im, .int .i64 m.d.den], .bool true]) ∧ Below _ _ _ := ho.fn
    clear ho
    have HB := Lib.hid (show Below w.heap.size w w2 from HB.out.trans ((show Below _ _ _ from (((Below.refl _ _).alloc (by omega) _).alloc (by first | omega | (simp; done) | (simp <;> omega)) _)).trans (hb.mono (by first | omega | (simp <;> omega)))))
    have Ha : Hid (w2.rangeAt w1.heap.size 0 [.int .i64 a.a.re, .int .i64 a.a.im, .int .i64 a.a.den, .int .i64 a.b.re, .int .i64 a.b.im, .int .i64 a.b.den, .int .i64 a.c.re, .int .i64 a.c.im, .int .i64 a.c.den, .int .i64 a.d.re, .int .i64 a.d.im, .int .i64 a.d.den]) := rangeAt_below (World.rangeAt_alloc (rangeAt_new _ _ _) _) hb (by first | omega | (simp; done) | (simp <;> omega))
    have Hb : Hid (w2.rangeAt (w1.heap.size + 1) 0 [.int .i64 b.a.re, .int .i64 b.a.im, .int .i64 b.a.den, .int .i64 b.b.re, .int .i64 b.b.im, .int .i64 b.b.den, .int .i64 b.c.re, .int .i64 b.c.im, .int .i64 b.c.den, .int .i64 b.d.re, .int .i64 b.d.im, .int .i64 b.d.den]) := rangeAt_below (rangeAt_new2 (by simp)) hb (by first | omega | (simp; done) | (simp <;> omega))
    have hz2 := hb.size
    (try simp at hz2)
    clear hb
    have nA0 : w1.heap.size < w2.heap.size := by omega
    have nB0 : ¬ w1.heap.size = w2.heap.size := by omega
    have nC0 : ¬ w2.heap.size = w1.heap.size := by omega
    have nA1 : w1.heap.size + 1 < w2.heap.size := by omega
    have nB1 : ¬ w1.heap.size + 1 = w2.heap.size := by omega
    have nC1 : ¬ w2.heap.size = w1.heap.size + 1 := by omega
    go_wp2_with (first | ((with_reducible refine wpList_load_mid ?kl161 27 ?kl16x ?kl162 (w1.heap.size) 0 ?kl163 [.int .i64 a.a.re, .int .i64 a.a.im, .int .i64 a.a.den, .int .i64 a.b.re, .int .i64 a.b.im, .int .i64 a.b.den, .int .i64 a.c.re, .int .i64 a.c.im, .int .i64 a.c.den, .int .i64 a.d.re, .int .i64 a.d.im, .int .i64 a.d.den] ?kl16d ?kl164 ?kl165 ?kl166 ?kl167 ?kl168); (case kl162 => rfl); (case kl161 => rfl); (case kl163 => rfl); (case kl164 => (exact (World.rangeAt_alloc Ha.out _))); (case kl165 => exact Try.underlying27); (case kl166 => rfl); (case kl167 => kernel_rfl)) | ((with_reducible refine wpList_load_mid ?kl171 27 ?kl17x ?kl172 (w1.heap.size + 1) 0 ?kl173 [.int .i64 b.a.re, .int .i64 b.a.im, .int .i64 b.a.den, .int .i64 b.b.re, .int .i64 b.b.im, .int .i64 b.b.den, .int .i64 b.c.re, .int .i64 b.c.im, .int .i64 b.c.den, .int .i64 b.d.re, .int .i64 b.d.im, .int .i64 b.d.den] ?kl17d ?kl174 ?kl175 ?kl176 ?kl177 ?kl178); (case kl172 => rfl); (case kl171 => rfl); (case kl173 => rfl); (case kl174 => (exact (World.rangeAt_alloc Hb.out _))); (case kl175 => exact Try.underlying27); (case kl176 => rfl); (case kl177 => kernel_rfl)))
    refine (sadd4_any a b _).mono ?_
    rintro e w3 ho
    rw [HG.out] at ho
    obtain ⟨rfl, hb⟩ : e = .returned (.tuple #[.agg #[.int .i64 m.a.re, .int .i64 m.a.im, .int .i64 m.a.den, .int .i64 m.b.re, .int .i64 m.b.im, .int .i64 m.b.den, .int .i64 m.c.re, .int .i64 m.c.im, .int .i64 m.c.den, .int .i64 m.d.re, .int .i64 m.d.im, .int .i64 m.d.den], .bool true]) ∧ Below _ _ _ := ho.fn
    clear ho
    have HB := Lib.hid (show Below w.heap.size w w3 from HB.out.trans ((show Below _ _ _ from ((Below.refl _ _).alloc (by omega) _)).trans (hb.mono (by first | omega | (simp <;> omega)))))
    have Ha : Hid (w3.rangeAt (w1.heap.size) 0 [.int .i64 a.a.re, .int .i64 a.a.im, .int .i64 a.a.den, .int .i64 a.b.re, .int .i64 a.b.im, .int .i64 a.b.den, .int .i64 a.c.re, .int .i64 a.c.im, .int .i64 a.c.den, .int .i64 a.d.re, .int .i64 a.d.im, .int .i64 a.d.den]) := rangeAt_below (World.rangeAt_alloc Ha.out _) hb (by first | omega | (simp; done) | (simp <;> omega))
    have Hb : Hid (w3.rangeAt (w1.heap.size + 1) 0 [.int .i64 b.a.re, .int .i64 b.a.im, .int .i64 b.a.den, .int .i64 b.b.re, .int .i64 b.b.im, .int .i64 b.b.den, .int .i64 b.c.re, .int .i64 b.c.im, .int .i64 b.c.den, .int .i64 b.d.re, .int .i64 b.d.im, .int .i64 b.d.den]) := rangeAt_below (World.rangeAt_alloc Hb.out _) hb (by first | omega | (simp; done) | (simp <;> omega))
    have Ho : Hid (w3.rangeAt w2.heap.size 0 [.int .i64 m.a.re, .int .i64 m.a.im, .int .i64 m.a.den, .int .i64 m.b.re, .int .i64 m.b.im, .int .i64 m.b.den, .int .i64 m.c.re, .int .i64 m.c.im, .int .i64 m.c.den, .int .i64 m.d.re, .int .i64 m.d.im, .int .i64 m.d.den]) := rangeAt_below (rangeAt_new _ _ _) hb (by first | omega | (simp; done) | (simp <;> omega))
    have hz3 := hb.size
    (try simp at hz3)
    clear hb
    have nA0 : w1.heap.size < w3.heap.size := by omega
    have nB0 : ¬ w1.heap.size = w3.heap.size := by omega
    have nC0 : ¬ w3.heap.size = w1.heap.size := by omega
    have nA1 : w1.heap.size + 1 < w3.heap.size := by omega
    have nB1 : ¬ w1.heap.size + 1 = w3.heap.size := by omega
    have nC1 : ¬ w3.heap.size = w1.heap.size + 1 := by omega
    have nA2 : w2.heap.size < w3.heap.size := by omega
    have nB2 : ¬ w2.heap.size = w3.heap.size := by omega
    have nC2 : ¬ w3.heap.size = w2.heap.size := by omega
    have hEq1 : ∀ w, (Op.equalIn 10000 27 (.agg #[.int .i64 m.a.re, .int .i64 m.a.im, .int .i64 m.a.den, .int .i64 m.b.re, .int .i64 m.b.im, .int .i64 m.b.den, .int .i64 m.c.re, .int .i64 m.c.im, .int .i64 m.c.den, .int .i64 m.d.re, .int .i64 m.d.im, .int .i64 m.d.den]) (.agg #[.int .i64 m.a.re, .int .i64 m.a.im, .int .i64 m.a.den, .int .i64 m.b.re, .int .i64 m.b.im, .int .i64 m.b.den, .int .i64 m.c.re, .int .i64 m.c.im, .int .i64 m.c.den, .int .i64 m.d.re, .int .i64 m.d.im, .int .i64 m.d.den])).run Try.prog w = .ok true w := eqStokes_run m
    have zo_0 : w3.cell? ⟨w2.heap.size, 0, none⟩ = some (.int .i64 m.a.re) := by have := Ho.out 0 _ rfl; rwa [Nat.zero_add] at this
    have zo_1 : w3.cell? ⟨w2.heap.size, 1, none⟩ = some (.int .i64 m.a.im) := by have := Ho.out 1 _ rfl; rwa [Nat.zero_add] at this
    have zo_2 : w3.cell? ⟨w2.heap.size, 2, none⟩ = some (.int .i64 m.a.den) := by have := Ho.out 2 _ rfl; rwa [Nat.zero_add] at this
    have zo_3 : w3.cell? ⟨w2.heap.size, 3, none⟩ = some (.int .i64 m.b.re) := by have := Ho.out 3 _ rfl; rwa [Nat.zero_add] at this
    have zo_4 : w3.cell? ⟨w2.heap.size, 4, none⟩ = some (.int .i64 m.b.im) := by have := Ho.out 4 _ rfl; rwa [Nat.zero_add] at this
    have zo_5 : w3.cell? ⟨w2.heap.size, 5, none⟩ = some (.int .i64 m.b.den) := by have := Ho.out 5 _ rfl; rwa [Nat.zero_add] at this
    have zo_6 : w3.cell? ⟨w2.heap.size, 6, none⟩ = some (.int .i64 m.c.re) := by have := Ho.out 6 _ rfl; rwa [Nat.zero_add] at this
    have zo_7 : w3.cell? ⟨w2.heap.size, 7, none⟩ = some (.int .i64 m.c.im) := by have := Ho.out 7 _ rfl; rwa [Nat.zero_add] at this
    have zo_8 : w3.cell? ⟨w2.heap.size, 8, none⟩ = some (.int .i64 m.c.den) := by have := Ho.out 8 _ rfl; rwa [Nat.zero_add] at this
    have zo_9 : w3.cell? ⟨w2.heap.size, 9, none⟩ = some (.int .i64 m.d.re) := by have := Ho.out 9 _ rfl; rwa [Nat.zero_add] at this
    have zo_10 : w3.cell? ⟨w2.heap.size, 10, none⟩ = some (.int .i64 m.d.im) := by have := Ho.out 10 _ rfl; rwa [Nat.zero_add] at this
    have zo_11 : w3.cell? ⟨w2.heap.size, 11, none⟩ = some (.int .i64 m.d.den) := by have := Ho.out 11 _ rfl; rwa [Nat.zero_add] at this
    go_wp2_with (first | ((with_reducible refine wpList_load_mid ?kl181 27 ?kl18x ?kl182 (w1.heap.size + 1) 0 ?kl183 [.int .i64 b.a.re, .int .i64 b.a.im, .int .i64 b.a.den, .int .i64 b.b.re, .int .i64 b.b.im, .int .i64 b.b.den, .int .i64 b.c.re, .int .i64 b.c.im, .int .i64 b.c.den, .int .i64 b.d.re, .int .i64 b.d.im, .int .i64 b.d.den] ?kl18d ?kl184 ?kl185 ?kl186 ?kl187 ?kl188); (case kl182 => rfl); (case kl181 => rfl); (case kl183 => rfl); (case kl184 => (exact (World.rangeAt_alloc Hb.out _))); (case kl185 => exact Try.underlying27); (case kl186 => rfl); (case kl187 => kernel_rfl)) | ((with_reducible refine wpList_load_mid ?kl191 27 ?kl19x ?kl192 (w1.heap.size) 0 ?kl193 [.int .i64 a.a.re, .int .i64 a.a.im, .int .i64 a.a.den, .int .i64 a.b.re, .int .i64 a.b.im, .int .i64 a.b.den, .int .i64 a.c.re, .int .i64 a.c.im, .int .i64 a.c.den, .int .i64 a.d.re, .int .i64 a.d.im, .int .i64 a.d.den] ?kl19d ?kl194 ?kl195 ?kl196 ?kl197 ?kl198); (case kl192 => rfl); (case kl191 => rfl); (case kl193 => rfl); (case kl194 => (exact (World.rangeAt_alloc Ha.out _))); (case kl195 => exact Try.underlying27); (case kl196 => rfl); (case kl197 => kernel_rfl)))
    refine (iadd4_any b a _).mono ?_
    rintro e w4 ho
    rw [HG2.out] at ho
    obtain ⟨rfl, hb⟩ : e = .returned (.tuple #[.agg #[.int .i64 m.a.re, .int .i64 m.a.im, .int .i64 m.a.den, .int .i64 m.b.re, .int .i64 m.b.im, .int .i64 m.b.den, .int .i64 m.c.re, .int .i64 m.c.im, .int .i64 m.c.den, .int .i64 m.d.re, .int .i64 m.d.im, .int .i64 m.d.den], .bool true]) ∧ Below _ _ _ := ho.fn
    clear ho
    have HB := Lib.hid (show Below w.heap.size w w4 from HB.out.trans ((show Below _ _ _ from ((Below.refl _ _).alloc (by omega) _)).trans (hb.mono (by first | omega | (simp <;> omega)))))
    have Ha : Hid (w4.rangeAt (w1.heap.size) 0 [.int .i64 a.a.re, .int .i64 a.a.im, .int .i64 a.a.den, .int .i64 a.b.re, .int .i64 a.b.im, .int .i64 a.b.den, .int .i64 a.c.re, .int .i64 a.c.im, .int .i64 a.c.den, .int .i64 a.d.re, .int .i64 a.d.im, .int .i64 a.d.den]) := rangeAt_below (World.rangeAt_alloc Ha.out _) hb (by first | omega | (simp; done) | (simp <;> omega))
    have Hb : Hid (w4.rangeAt (w1.heap.size + 1) 0 [.int .i64 b.a.re, .int .i64 b.a.im, .int .i64 b.a.den, .int .i64 b.b.re, .int .i64 b.b.im, .int .i64 b.b.den, .int .i64 b.c.re, .int .i64 b.c.im, .int .i64 b.c.den, .int .i64 b.d.re, .int .i64 b.d.im, .int .i64 b.d.den]) := rangeAt_below (World.rangeAt_alloc Hb.out _) hb (by first | omega | (simp; done) | (simp <;> omega))
    have Ho : Hid (w4.rangeAt (w2.heap.size) 0 [.int .i64 m.a.re, .int .i64 m.a.im, .int .i64 m.a.den, .int .i64 m.b.re, .int .i64 m.b.im, .int .i64 m.b.den, .int .i64 m.c.re, .int .i64 m.c.im, .int .i64 m.c.den, .int .i64 m.d.re, .int .i64 m.d.im, .int .i64 m.d.den]) := rangeAt_below (World.rangeAt_alloc Ho.out _) hb (by first | omega | (simp; done) | (simp <;> omega))
    have Hq : Hid (w4.rangeAt w3.heap.size 0 [.int .i64 m.a.re, .int .i64 m.a.im, .int .i64 m.a.den, .int .i64 m.b.re, .int .i64 m.b.im, .int .i64 m.b.den, .int .i64 m.c.re, .int .i64 m.c.im, .int .i64 m.c.den, .int .i64 m.d.re, .int .i64 m.d.im, .int .i64 m.d.den]) := rangeAt_below (rangeAt_new _ _ _) hb (by first | omega | (simp; done) | (simp <;> omega))
    have hz4 := hb.size
    (try simp at hz4)
    clear hb
    have nA0 : w1.heap.size < w4.heap.size := by omega
    have nB0 : ¬ w1.heap.size = w4.heap.size := by omega
    have nC0 : ¬ w4.heap.size = w1.heap.size := by omega
    have nA1 : w1.heap.size + 1 < w4.heap.size := by omega
    have nB1 : ¬ w1.heap.size + 1 = w4.heap.size := by omega
    have nC1 : ¬ w4.heap.size = w1.heap.size + 1 := by omega
    have nA2 : w2.heap.size < w4.heap.size := by omega
    have nB2 : ¬ w2.heap.size = w4.heap.size := by omega
    have nC2 : ¬ w4.heap.size = w2.heap.size := by omega
    have nA3 : w3.heap.size < w4.heap.size := by omega
    have nB3 : ¬ w3.heap.size = w4.heap.size := by omega
    have nC3 : ¬ w4.heap.size = w3.heap.size := by omega
    obtain ⟨s, hs⟩ : ∃ s, s = (sSq m).1 := ⟨_, rfl⟩
    obtain ⟨b1, hb1⟩ : ∃ b, b = (sSq m).2 := ⟨_, rfl⟩
    have HS : Hid (sSq m = (s, b1)) := by show _ = _; rw [hs, hb1]
    have HB1 := Lib.hid hb1
    clear hs hb1
    go_wp2_with (first | ((with_reducible refine wpList_load_mid ?kl201 27 ?kl20x ?kl202 (w2.heap.size) 0 ?kl203 [.int .i64 m.a.re, .int .i64 m.a.im, .int .i64 m.a.den, .int .i64 m.b.re, .int .i64 m.b.im, .int .i64 m.b.den, .int .i64 m.c.re, .int .i64 m.c.im, .int .i64 m.c.den, .int .i64 m.d.re, .int .i64 m.d.im, .int .i64 m.d.den] ?kl20d ?kl204 ?kl205 ?kl206 ?kl207 ?kl208); (case kl202 => rfl); (case kl201 => rfl); (case kl203 => rfl); (case kl204 => (exact (World.rangeAt_alloc Ho.out _))); (case kl205 => exact Try.underlying27); (case kl206 => rfl); (case kl207 => kernel_rfl)))
    refine (isq_any m _).mono ?_
    rintro e w5 ho
    rw [HS.out] at ho
    obtain ⟨rfl, hb⟩ : e = .returned (.tuple #[.agg #[.int .i64 s.re, .int .i64 s.im, .int .i64 s.den], .bool b1]) ∧ Below _ _ _ := ho.fn
    clear ho
    have HB := Lib.hid (show Below w.heap.size w w5 from HB.out.trans ((show Below _ _ _ from ((Below.refl _ _).alloc (by omega) _)).trans (hb.mono (by first | omega | (simp <;> omega)))))
    have Ha : Hid (w5.rangeAt (w1.heap.size) 0 [.int .i64 a.a.re, .int .i64 a.a.im, .int .i64 a.a.den, .int .i64 a.b.re, .int .i64 a.b.im, .int .i64 a.b.den, .int .i64 a.c.re, .int .i64 a.c.im, .int .i64 a.c.den, .int .i64 a.d.re, .int .i64 a.d.im, .int .i64 a.d.den]) := rangeAt_below (World.rangeAt_alloc Ha.out _) hb (by first | omega | (simp; done) | (simp <;> omega))
    have Hb : Hid (w5.rangeAt (w1.heap.size + 1) 0 [.int .i64 b.a.re, .int .i64 b.a.im, .int .i64 b.a.den, .int .i64 b.b.re, .int .i64 b.b.im, .int .i64 b.b.den, .int .i64 b.c.re, .int .i64 b.c.im, .int .i64 b.c.den, .int .i64 b.d.re, .int .i64 b.d.im, .int .i64 b.d.den]) := rangeAt_below (World.rangeAt_alloc Hb.out _) hb (by first | omega | (simp; done) | (simp <;> omega))
    have Ho : Hid (w5.rangeAt (w2.heap.size) 0 [.int .i64 m.a.re, .int .i64 m.a.im, .int .i64 m.a.den, .int .i64 m.b.re, .int .i64 m.b.im, .int .i64 m.b.den, .int .i64 m.c.re, .int .i64 m.c.im, .int .i64 m.c.den, .int .i64 m.d.re, .int .i64 m.d.im, .int .i64 m.d.den]) := rangeAt_below (World.rangeAt_alloc Ho.out _) hb (by first | omega | (simp; done) | (simp <;> omega))
    have Hq : Hid (w5.rangeAt (w3.heap.size) 0 [.int .i64 m.a.re, .int .i64 m.a.im, .int .i64 m.a.den, .int .i64 m.b.re, .int .i64 m.b.im, .int .i64 m.b.den, .int .i64 m.c.re, .int .i64 m.c.im, .int .i64 m.c.den, .int .i64 m.d.re, .int .i64 m.d.im, .int .i64 m.d.den]) := rangeAt_below (World.rangeAt_alloc Hq.out _) hb (by first | omega | (simp; done) | (simp <;> omega))
    have Hx : Hid (w5.rangeAt w4.heap.size 0 [.int .i64 m.a.re, .int .i64 m.a.im, .int .i64 m.a.den, .int .i64 m.b.re, .int .i64 m.b.im, .int .i64 m.b.den, .int .i64 m.c.re, .int .i64 m.c.im, .int .i64 m.c.den, .int .i64 m.d.re, .int .i64 m.d.im, .int .i64 m.d.den]) := rangeAt_below (rangeAt_new _ _ _) hb (by first | omega | (simp; done) | (simp <;> omega))
    have hz5 := hb.size
    (try simp at hz5)
    clear hb
    have nA0 : w1.heap.size < w5.heap.size := by omega
    have nB0 : ¬ w1.heap.size = w5.heap.size := by omega
    have nC0 : ¬ w5.heap.size = w1.heap.size := by omega
    have nA1 : w1.heap.size + 1 < w5.heap.size := by omega
    have nB1 : ¬ w1.heap.size + 1 = w5.heap.size := by omega
    have nC1 : ¬ w5.heap.size = w1.heap.size + 1 := by omega
    have nA2 : w2.heap.size < w5.heap.size := by omega
    have nB2 : ¬ w2.heap.size = w5.heap.size := by omega
    have nC2 : ¬ w5.heap.size = w2.heap.size := by omega
    have nA3 : w3.heap.size < w5.heap.size := by omega
    have nB3 : ¬ w3.heap.size = w5.heap.size := by omega
    have nC3 : ¬ w5.heap.size = w3.heap.size := by omega
    have nA4 : w4.heap.size < w5.heap.size := by omega
    have nB4 : ¬ w4.heap.size = w5.heap.size := by omega
    have nC4 : ¬ w5.heap.size = w4.heap.size := by omega
    have zo_0 : w5.cell? ⟨w2.heap.size, 0, none⟩ = some (.int .i64 m.a.re) := by have := Ho.out 0 _ rfl; rwa [Nat.zero_add] at this
    have zo_1 : w5.cell? ⟨w2.heap.size, 1, none⟩ = some (.int .i64 m.a.im) := by have := Ho.out 1 _ rfl; rwa [Nat.zero_add] at this
    have zo_2 : w5.cell? ⟨w2.heap.size, 2, none⟩ = some (.int .i64 m.a.den) := by have := Ho.out 2 _ rfl; rwa [Nat.zero_add] at this
    have zo_3 : w5.cell? ⟨w2.heap.size, 3, none⟩ = some (.int .i64 m.b.re) := by have := Ho.out 3 _ rfl; rwa [Nat.zero_add] at this
    have zo_4 : w5.cell? ⟨w2.heap.size, 4, none⟩ = some (.int .i64 m.b.im) := by have := Ho.out 4 _ rfl; rwa [Nat.zero_add] at this
    have zo_5 : w5.cell? ⟨w2.heap.size, 5, none⟩ = some (.int .i64 m.b.den) := by have := Ho.out 5 _ rfl; rwa [Nat.zero_add] at this
    have zo_6 : w5.cell? ⟨w2.heap.size, 6, none⟩ = some (.int .i64 m.c.re) := by have := Ho.out 6 _ rfl; rwa [Nat.zero_add] at this
    have zo_7 : w5.cell? ⟨w2.heap.size, 7, none⟩ = some (.int .i64 m.c.im) := by have := Ho.out 7 _ rfl; rwa [Nat.zero_add] at this
    have zo_8 : w5.cell? ⟨w2.heap.size, 8, none⟩ = some (.int .i64 m.c.den) := by have := Ho.out 8 _ rfl; rwa [Nat.zero_add] at this
    have zo_9 : w5.cell? ⟨w2.heap.size, 9, none⟩ = some (.int .i64 m.d.re) := by have := Ho.out 9 _ rfl; rwa [Nat.zero_add] at this
    have zo_10 : w5.cell? ⟨w2.heap.size, 10, none⟩ = some (.int .i64 m.d.im) := by have := Ho.out 10 _ rfl; rwa [Nat.zero_add] at this
    have zo_11 : w5.cell? ⟨w2.heap.size, 11, none⟩ = some (.int .i64 m.d.den) := by have := Ho.out 11 _ rfl; rwa [Nat.zero_add] at this
    obtain ⟨t, ht⟩ : ∃ t, t = (fTimes m.a m.a).1 := ⟨_, rfl⟩
    obtain ⟨b2, hb2⟩ : ∃ b, b = (fTimes m.a m.a).2 := ⟨_, rfl⟩
    have HF : Hid (fTimes m.a m.a = (t, b2)) := by show _ = _; rw [ht, hb2]
    have HB2 := Lib.hid hb2
    clear ht hb2
    go_wp2_with fail
    refine (times_fr m.a m.a _).mono ?_
    rintro e w6 ho
    rw [HF.out] at ho
    obtain ⟨rfl, hb⟩ : e = .returned (.tuple #[.agg #[.int .i64 t.re, .int .i64 t.im, .int .i64 t.den], .bool b2]) ∧ Below _ _ _ := ho.fn
    clear ho
    have HB := Lib.hid (show Below w.heap.size w w6 from HB.out.trans ((show Below _ _ _ from ((Below.refl _ _).alloc (by omega) _)).trans (hb.mono (by first | omega | (simp <;> omega)))))
    have Ha : Hid (w6.rangeAt (w1.heap.size) 0 [.int .i64 a.a.re, .int .i64 a.a.im, .int .i64 a.a.den, .int .i64 a.b.re, .int .i64 a.b.im, .int .i64 a.b.den, .int .i64 a.c.re, .int .i64 a.c.im, .int .i64 a.c.den, .int .i64 a.d.re, .int .i64 a.d.im, .int .i64 a.d.den]) := rangeAt_below (World.rangeAt_alloc Ha.out _) hb (by first | omega | (simp; done) | (simp <;> omega))
    have Hb : Hid (w6.rangeAt (w1.heap.size + 1) 0 [.int .i64 b.a.re, .int .i64 b.a.im, .int .i64 b.a.den, .int .i64 b.b.re, .int .i64 b.b.im, .int .i64 b.b.den, .int .i64 b.c.re, .int .i64 b.c.im, .int .i64 b.c.den, .int .i64 b.d.re, .int .i64 b.d.im, .int .i64 b.d.den]) := rangeAt_below (World.rangeAt_alloc Hb.out _) hb (by first | omega | (simp; done) | (simp <;> omega))
    have Ho : Hid (w6.rangeAt (w2.heap.size) 0 [.int .i64 m.a.re, .int .i64 m.a.im, .int .i64 m.a.den, .int .i64 m.b.re, .int .i64 m.b.im, .int .i64 m.b.den, .int .i64 m.c.re, .int .i64 m.c.im, .int .i64 m.c.den, .int .i64 m.d.re, .int .i64 m.d.im, .int .i64 m.d.den]) := rangeAt_below (World.rangeAt_alloc Ho.out _) hb (by first | omega | (simp; done) | (simp <;> omega))
    have Hq : Hid (w6.rangeAt (w3.heap.size) 0 [.int .i64 m.a.re, .int .i64 m.a.im, .int .i64 m.a.den, .int .i64 m.b.re, .int .i64 m.b.im, .int .i64 m.b.den, .int .i64 m.c.re, .int .i64 m.c.im, .int .i64 m.c.den, .int .i64 m.d.re, .int .i64 m.d.im, .int .i64 m.d.den]) := rangeAt_below (World.rangeAt_alloc Hq.out _) hb (by first | omega | (simp; done) | (simp <;> omega))
    have Hx : Hid (w6.rangeAt (w4.heap.size) 0 [.int .i64 m.a.re, .int .i64 m.a.im, .int .i64 m.a.den, .int .i64 m.b.re, .int .i64 m.b.im, .int .i64 m.b.den, .int .i64 m.c.re, .int .i64 m.c.im, .int .i64 m.c.den, .int .i64 m.d.re, .int .i64 m.d.im, .int .i64 m.d.den]) := rangeAt_below (World.rangeAt_alloc Hx.out _) hb (by first | omega | (simp; done) | (simp <;> omega))
    have Hs1 : Hid (w6.rangeAt w5.heap.size 0 [.int .i64 s.re, .int .i64 s.im, .int .i64 s.den]) := rangeAt_below (rangeAt_new _ _ _) hb (by first | omega | (simp; done) | (simp <;> omega))
    have hz6 := hb.size
    (try simp at hz6)
    clear hb
    have nA0 : w1.heap.size < w6.heap.size := by omega
    have nB0 : ¬ w1.heap.size = w6.heap.size := by omega
    have nC0 : ¬ w6.heap.size = w1.heap.size := by omega
    have nA1 : w1.heap.size + 1 < w6.heap.size := by omega
    have nB1 : ¬ w1.heap.size + 1 = w6.heap.size := by omega
    have nC1 : ¬ w6.heap.size = w1.heap.size + 1 := by omega
    have nA2 : w2.heap.size < w6.heap.size := by omega
    have nB2 : ¬ w2.heap.size = w6.heap.size := by omega
    have nC2 : ¬ w6.heap.size = w2.heap.size := by omega
    have nA3 : w3.heap.size < w6.heap.size := by omega
    have nB3 : ¬ w3.heap.size = w6.heap.size := by omega
    have nC3 : ¬ w6.heap.size = w3.heap.size := by omega
    have nA4 : w4.heap.size < w6.heap.size := by omega
    have nB4 : ¬ w4.heap.size = w6.heap.size := by omega
    have nC4 : ¬ w6.heap.size = w4.heap.size := by omega
    have nA5 : w5.heap.size < w6.heap.size := by omega
    have nB5 : ¬ w5.heap.size = w6.heap.size := by omega
    have nC5 : ¬ w6.heap.size = w5.heap.size := by omega
    have zb_0 : w6.cell? ⟨w1.heap.size + 1, 0, none⟩ = some (.int .i64 b.a.re) := by have := Hb.out 0 _ rfl; rwa [Nat.zero_add] at this
    have zb_1 : w6.cell? ⟨w1.heap.size + 1, 1, none⟩ = some (.int .i64 b.a.im) := by have := Hb.out 1 _ rfl; rwa [Nat.zero_add] at this
    have zb_2 : w6.cell? ⟨w1.heap.size + 1, 2, none⟩ = some (.int .i64 b.a.den) := by have := Hb.out 2 _ rfl; rwa [Nat.zero_add] at this
    have zb_3 : w6.cell? ⟨w1.heap.size + 1, 3, none⟩ = some (.int .i64 b.b.re) := by have := Hb.out 3 _ rfl; rwa [Nat.zero_add] at this
    have zb_4 : w6.cell? ⟨w1.heap.size + 1, 4, none⟩ = some (.int .i64 b.b.im) := by have := Hb.out 4 _ rfl; rwa [Nat.zero_add] at this
    have zb_5 : w6.cell? ⟨w1.heap.size + 1, 5, none⟩ = some (.int .i64 b.b.den) := by have := Hb.out 5 _ rfl; rwa [Nat.zero_add] at this
    have zb_6 : w6.cell? ⟨w1.heap.size + 1, 6, none⟩ = some (.int .i64 b.c.re) := by have := Hb.out 6 _ rfl; rwa [Nat.zero_add] at this
    have zb_7 : w6.cell? ⟨w1.heap.size + 1, 7, none⟩ = some (.int .i64 b.c.im) := by have := Hb.out 7 _ rfl; rwa [Nat.zero_add] at this
    have zb_8 : w6.cell? ⟨w1.heap.size + 1, 8, none⟩ = some (.int .i64 b.c.den) := by have := Hb.out 8 _ rfl; rwa [Nat.zero_add] at this
    have zb_9 : w6.cell? ⟨w1.heap.size + 1, 9, none⟩ = some (.int .i64 b.d.re) := by have := Hb.out 9 _ rfl; rwa [Nat.zero_add] at this
    have zb_10 : w6.cell? ⟨w1.heap.size + 1, 10, none⟩ = some (.int .i64 b.d.im) := by have := Hb.out 10 _ rfl; rwa [Nat.zero_add] at this
    have zb_11 : w6.cell? ⟨w1.heap.size + 1, 11, none⟩ = some (.int .i64 b.d.den) := by have := Hb.out 11 _ rfl; rwa [Nat.zero_add] at this
    have zo_0 : w6.cell? ⟨w2.heap.size, 0, none⟩ = some (.int .i64 m.a.re) := by have := Ho.out 0 _ rfl; rwa [Nat.zero_add] at this
    have zo_1 : w6.cell? ⟨w2.heap.size, 1, none⟩ = some (.int .i64 m.a.im) := by have := Ho.out 1 _ rfl; rwa [Nat.zero_add] at this
    have zo_2 : w6.cell? ⟨w2.heap.size, 2, none⟩ = some (.int .i64 m.a.den) := by have := Ho.out 2 _ rfl; rwa [Nat.zero_add] at this
    have zo_3 : w6.cell? ⟨w2.heap.size, 3, none⟩ = some (.int .i64 m.b.re) := by have := Ho.out 3 _ rfl; rwa [Nat.zero_add] at this
    have zo_4 : w6.cell? ⟨w2.heap.size, 4, none⟩ = some (.int .i64 m.b.im) := by have := Ho.out 4 _ rfl; rwa [Nat.zero_add] at this
    have zo_5 : w6.cell? ⟨w2.heap.size, 5, none⟩ = some (.int .i64 m.b.den) := by have := Ho.out 5 _ rfl; rwa [Nat.zero_add] at this
    have zo_6 : w6.cell? ⟨w2.heap.size, 6, none⟩ = some (.int .i64 m.c.re) := by have := Ho.out 6 _ rfl; rwa [Nat.zero_add] at this
    have zo_7 : w6.cell? ⟨w2.heap.size, 7, none⟩ = some (.int .i64 m.c.im) := by have := Ho.out 7 _ rfl; rwa [Nat.zero_add] at this
    have zo_8 : w6.cell? ⟨w2.heap.size, 8, none⟩ = some (.int .i64 m.c.den) := by have := Ho.out 8 _ rfl; rwa [Nat.zero_add] at this
    have zo_9 : w6.cell? ⟨w2.heap.size, 9, none⟩ = some (.int .i64 m.d.re) := by have := Ho.out 9 _ rfl; rwa [Nat.zero_add] at this
    have zo_10 : w6.cell? ⟨w2.heap.size, 10, none⟩ = some (.int .i64 m.d.im) := by have := Ho.out 10 _ rfl; rwa [Nat.zero_add] at this
    have zo_11 : w6.cell? ⟨w2.heap.size, 11, none⟩ = some (.int .i64 m.d.den) := by have := Ho.out 11 _ rfl; rwa [Nat.zero_add] at this
    have zx_0 : w6.cell? ⟨w4.heap.size, 0, none⟩ = some (.int .i64 m.a.re) := by have := Hx.out 0 _ rfl; rwa [Nat.zero_add] at this
    have zx_1 : w6.cell? ⟨w4.heap.size, 1, none⟩ = some (.int .i64 m.a.im) := by have := Hx.out 1 _ rfl; rwa [Nat.zero_add] at this
    have zx_2 : w6.cell? ⟨w4.heap.size, 2, none⟩ = some (.int .i64 m.a.den) := by have := Hx.out 2 _ rfl; rwa [Nat.zero_add] at this
    have zx_3 : w6.cell? ⟨w4.heap.size, 3, none⟩ = some (.int .i64 m.b.re) := by have := Hx.out 3 _ rfl; rwa [Nat.zero_add] at this
    have zx_4 : w6.cell? ⟨w4.heap.size, 4, none⟩ = some (.int .i64 m.b.im) := by have := Hx.out 4 _ rfl; rwa [Nat.zero_add] at this
    have zx_5 : w6.cell? ⟨w4.heap.size, 5, none⟩ = some (.int .i64 m.b.den) := by have := Hx.out 5 _ rfl; rwa [Nat.zero_add] at this
    have zx_6 : w6.cell? ⟨w4.heap.size, 6, none⟩ = some (.int .i64 m.c.re) := by have := Hx.out 6 _ rfl; rwa [Nat.zero_add] at this
    have zx_7 : w6.cell? ⟨w4.heap.size, 7, none⟩ = some (.int .i64 m.c.im) := by have := Hx.out 7 _ rfl; rwa [Nat.zero_add] at this
    have zx_8 : w6.cell? ⟨w4.heap.size, 8, none⟩ = some (.int .i64 m.c.den) := by have := Hx.out 8 _ rfl; rwa [Nat.zero_add] at this
    have zx_9 : w6.cell? ⟨w4.heap.size, 9, none⟩ = some (.int .i64 m.d.re) := by have := Hx.out 9 _ rfl; rwa [Nat.zero_add] at this
    have zx_10 : w6.cell? ⟨w4.heap.size, 10, none⟩ = some (.int .i64 m.d.im) := by have := Hx.out 10 _ rfl; rwa [Nat.zero_add] at this
    have zx_11 : w6.cell? ⟨w4.heap.size, 11, none⟩ = some (.int .i64 m.d.den) := by have := Hx.out 11 _ rfl; rwa [Nat.zero_add] at this
    cases hl : gLight a
    · skip
      go_wp2_with (first | ((with_reducible refine wpList_load_mid ?kl211 27 ?kl21x ?kl212 (w1.heap.size) 0 ?kl213 [.int .i64 a.a.re, .int .i64 a.a.im, .int .i64 a.a.den, .int .i64 a.b.re, .int .i64 a.b.im, .int .i64 a.b.den, .int .i64 a.c.re, .int .i64 a.c.im, .int .i64 a.c.den, .int .i64 a.d.re, .int .i64 a.d.im, .int .i64 a.d.den] ?kl21d ?kl214 ?kl215 ?kl216 ?kl217 ?kl218); (case kl212 => rfl); (case kl211 => rfl); (case kl213 => rfl); (case kl214 => (exact (World.rangeAt_alloc Ha.out _))); (case kl215 => exact Try.underlying27); (case kl216 => rfl); (case kl217 => kernel_rfl)))
      refine (ilight_any a _).mono ?_
      rintro e w7 ho
      rw [hl] at ho
      obtain ⟨rfl, hb⟩ : e = .returned (.bool false) ∧ Below _ _ _ := (id ho)
      clear ho
      have HB := Lib.hid (show Below w.heap.size w w7 from HB.out.trans ((show Below _ _ _ from ((Below.refl _ _).alloc (by omega) _)).trans (hb.mono (by first | omega | (simp <;> omega)))))
      have Ha : Hid (w7.rangeAt (w1.heap.size) 0 [.int .i64 a.a.re, .int .i64 a.a.im, .int .i64 a.a.den, .int .i64 a.b.re, .int .i64 a.b.im, .int .i64 a.b.den, .int .i64 a.c.re, .int .i64 a.c.im, .int .i64 a.c.den, .int .i64 a.d.re, .int .i64 a.d.im, .int .i64 a.d.den]) := rangeAt_below (World.rangeAt_alloc Ha.out _) hb (by first | omega | (simp; done) | (simp <;> omega))
      have Hb : Hid (w7.rangeAt (w1.heap.size + 1) 0 [.int .i64 b.a.re, .int .i64 b.a.im, .int .i64 b.a.den, .int .i64 b.b.re, .int .i64 b.b.im, .int .i64 b.b.den, .int .i64 b.c.re, .int .i64 b.c.im, .int .i64 b.c.den, .int .i64 b.d.re, .int .i64 b.d.im, .int .i64 b.d.den]) := rangeAt_below (World.rangeAt_alloc Hb.out _) hb (by first | omega | (simp; done) | (simp <;> omega))
      have Ho : Hid (w7.rangeAt (w2.heap.size) 0 [.int .i64 m.a.re, .int .i64 m.a.im, .int .i64 m.a.den, .int .i64 m.b.re, .int .i64 m.b.im, .int .i64 m.b.den, .int .i64 m.c.re, .int .i64 m.c.im, .int .i64 m.c.den, .int .i64 m.d.re, .int .i64 m.d.im, .int .i64 m.d.den]) := rangeAt_below (World.rangeAt_alloc Ho.out _) hb (by first | omega | (simp; done) | (simp <;> omega))
      have Hq : Hid (w7.rangeAt (w3.heap.size) 0 [.int .i64 m.a.re, .int .i64 m.a.im, .int .i64 m.a.den, .int .i64 m.b.re, .int .i64 m.b.im, .int .i64 m.b.den, .int .i64 m.c.re, .int .i64 m.c.im, .int .i64 m.c.den, .int .i64 m.d.re, .int .i64 m.d.im, .int .i64 m.d.den]) := rangeAt_below (World.rangeAt_alloc Hq.out _) hb (by first | omega | (simp; done) | (simp <;> omega))
      have Hx : Hid (w7.rangeAt (w4.heap.size) 0 [.int .i64 m.a.re, .int .i64 m.a.im, .int .i64 m.a.den, .int .i64 m.b.re, .int .i64 m.b.im, .int .i64 m.b.den, .int .i64 m.c.re, .int .i64 m.c.im, .int .i64 m.c.den, .int .i64 m.d.re, .int .i64 m.d.im, .int .i64 m.d.den]) := rangeAt_below (World.rangeAt_alloc Hx.out _) hb (by first | omega | (simp; done) | (simp <;> omega))
      have Hs1 : Hid (w7.rangeAt (w5.heap.size) 0 [.int .i64 s.re, .int .i64 s.im, .int .i64 s.den]) := rangeAt_below (World.rangeAt_alloc Hs1.out _) hb (by first | omega | (simp; done) | (simp <;> omega))
      have Ht1 : Hid (w7.rangeAt w6.heap.size 0 [.int .i64 t.re, .int .i64 t.im, .int .i64 t.den]) := rangeAt_below (rangeAt_new _ _ _) hb (by first | omega | (simp; done) | (simp <;> omega))
      have hz7 := hb.size
      (try simp at hz7)
      clear hb
      have nA0 : w1.heap.size < w7.heap.size := by omega
      have nB0 : ¬ w1.heap.size = w7.heap.size := by omega
      have nC0 : ¬ w7.heap.size = w1.heap.size := by omega
      have nA1 : w1.heap.size + 1 < w7.heap.size := by omega
      have nB1 : ¬ w1.heap.size + 1 = w7.heap.size := by omega
      have nC1 : ¬ w7.heap.size = w1.heap.size + 1 := by omega
      have nA2 : w2.heap.size < w7.heap.size := by omega
      have nB2 : ¬ w2.heap.size = w7.heap.size := by omega
      have nC2 : ¬ w7.heap.size = w2.heap.size := by omega
      have nA3 : w3.heap.size < w7.heap.size := by omega
      have nB3 : ¬ w3.heap.size = w7.heap.size := by omega
      have nC3 : ¬ w7.heap.size = w3.heap.size := by omega
      have nA4 : w4.heap.size < w7.heap.size := by omega
      have nB4 : ¬ w4.heap.size = w7.heap.size := by omega
      have nC4 : ¬ w7.heap.size = w4.heap.size := by omega
      have nA5 : w5.heap.size < w7.heap.size := by omega
      have nB5 : ¬ w5.heap.size = w7.heap.size := by omega
      have nC5 : ¬ w7.heap.size = w5.heap.size := by omega
      have nA6 : w6.heap.size < w7.heap.size := by omega
      have nB6 : ¬ w6.heap.size = w7.heap.size := by omega
      have nC6 : ¬ w7.heap.size = w6.heap.size := by omega
      have zo_0 : w7.cell? ⟨w2.heap.size, 0, none⟩ = some (.int .i64 m.a.re) := by have := Ho.out 0 _ rfl; rwa [Nat.zero_add] at this
      have zo_1 : w7.cell? ⟨w2.heap.size, 1, none⟩ = some (.int .i64 m.a.im) := by have := Ho.out 1 _ rfl; rwa [Nat.zero_add] at this
      have zo_2 : w7.cell? ⟨w2.heap.size, 2, none⟩ = some (.int .i64 m.a.den) := by have := Ho.out 2 _ rfl; rwa [Nat.zero_add] at this
      have zo_3 : w7.cell? ⟨w2.heap.size, 3, none⟩ = some (.int .i64 m.b.re) := by have := Ho.out 3 _ rfl; rwa [Nat.zero_add] at this
      have zo_4 : w7.cell? ⟨w2.heap.size, 4, none⟩ = some (.int .i64 m.b.im) := by have := Ho.out 4 _ rfl; rwa [Nat.zero_add] at this
      have zo_5 : w7.cell? ⟨w2.heap.size, 5, none⟩ = some (.int .i64 m.b.den) := by have := Ho.out 5 _ rfl; rwa [Nat.zero_add] at this
      have zo_6 : w7.cell? ⟨w2.heap.size, 6, none⟩ = some (.int .i64 m.c.re) := by have := Ho.out 6 _ rfl; rwa [Nat.zero_add] at this
      have zo_7 : w7.cell? ⟨w2.heap.size, 7, none⟩ = some (.int .i64 m.c.im) := by have := Ho.out 7 _ rfl; rwa [Nat.zero_add] at this
      have zo_8 : w7.cell? ⟨w2.heap.size, 8, none⟩ = some (.int .i64 m.c.den) := by have := Ho.out 8 _ rfl; rwa [Nat.zero_add] at this
      have zo_9 : w7.cell? ⟨w2.heap.size, 9, none⟩ = some (.int .i64 m.d.re) := by have := Ho.out 9 _ rfl; rwa [Nat.zero_add] at this
      have zo_10 : w7.cell? ⟨w2.heap.size, 10, none⟩ = some (.int .i64 m.d.im) := by have := Ho.out 10 _ rfl; rwa [Nat.zero_add] at this
      have zo_11 : w7.cell? ⟨w2.heap.size, 11, none⟩ = some (.int .i64 m.d.den) := by have := Ho.out 11 _ rfl; rwa [Nat.zero_add] at this
      have zx_0 : w7.cell? ⟨w4.heap.size, 0, none⟩ = some (.int .i64 m.a.re) := by have := Hx.out 0 _ rfl; rwa [Nat.zero_add] at this
      have zx_1 : w7.cell? ⟨w4.heap.size, 1, none⟩ = some (.int .i64 m.a.im) := by have := Hx.out 1 _ rfl; rwa [Nat.zero_add] at this
      have zx_2 : w7.cell? ⟨w4.heap.size, 2, none⟩ = some (.int .i64 m.a.den) := by have := Hx.out 2 _ rfl; rwa [Nat.zero_add] at this
      have zx_3 : w7.cell? ⟨w4.heap.size, 3, none⟩ = some (.int .i64 m.b.re) := by have := Hx.out 3 _ rfl; rwa [Nat.zero_add] at this
      have zx_4 : w7.cell? ⟨w4.heap.size, 4, none⟩ = some (.int .i64 m.b.im) := by have := Hx.out 4 _ rfl; rwa [Nat.zero_add] at this
      have zx_5 : w7.cell? ⟨w4.heap.size, 5, none⟩ = some (.int .i64 m.b.den) := by have := Hx.out 5 _ rfl; rwa [Nat.zero_add] at this
      have zx_6 : w7.cell? ⟨w4.heap.size, 6, none⟩ = some (.int .i64 m.c.re) := by have := Hx.out 6 _ rfl; rwa [Nat.zero_add] at this
      have zx_7 : w7.cell? ⟨w4.heap.size, 7, none⟩ = some (.int .i64 m.c.im) := by have := Hx.out 7 _ rfl; rwa [Nat.zero_add] at this
      have zx_8 : w7.cell? ⟨w4.heap.size, 8, none⟩ = some (.int .i64 m.c.den) := by have := Hx.out 8 _ rfl; rwa [Nat.zero_add] at this
      have zx_9 : w7.cell? ⟨w4.heap.size, 9, none⟩ = some (.int .i64 m.d.re) := by have := Hx.out 9 _ rfl; rwa [Nat.zero_add] at this
      have zx_10 : w7.cell? ⟨w4.heap.size, 10, none⟩ = some (.int .i64 m.d.im) := by have := Hx.out 10 _ rfl; rwa [Nat.zero_add] at this
      have zx_11 : w7.cell? ⟨w4.heap.size, 11, none⟩ = some (.int .i64 m.d.den) := by have := Hx.out 11 _ rfl; rwa [Nat.zero_add] at this
      go_wp2_with fail
      go_ret
      exact ⟨rfl, (by (repeat' first | (with_reducible exact HB.out) | with_reducible refine setCells_below _ _ _ ?_ (by first | omega | (simp <;> omega)) | with_reducible refine Below.setCell ?_ (by show _ ≤ _; first | omega | (simp <;> omega) | simp) _ | with_reducible refine Below.alloc ?_ (by first | omega | (simp <;> omega)) _ | with_reducible apply Below.drew))⟩
    cases hl2 : gLight b
    · skip
      go_wp2_with (first | ((with_reducible refine wpList_load_mid ?kl221 27 ?kl22x ?kl222 (w1.heap.size) 0 ?kl223 [.int .i64 a.a.re, .int .i64 a.a.im, .int .i64 a.a.den, .int .i64 a.b.re, .int .i64 a.b.im, .int .i64 a.b.den, .int .i64 a.c.re, .int .i64 a.c.im, .int .i64 a.c.den, .int .i64 a.d.re, .int .i64 a.d.im, .int .i64 a.d.den] ?kl22d ?kl224 ?kl225 ?kl226 ?kl227 ?kl228); (case kl222 => rfl); (case kl221 => rfl); (case kl223 => rfl); (case kl224 => (exact (World.rangeAt_alloc Ha.out _))); (case kl225 => exact Try.underlying27); (case kl226 => rfl); (case kl227 => kernel_rfl)))
      refine (ilight_any a _).mono ?_
      rintro e w7 ho
      rw [hl] at ho
      obtain ⟨rfl, hb⟩ : e = .returned (.bool true) ∧ Below _ _ _ := (id ho)
      clear ho
      have HB := Lib.hid (show Below w.heap.size w w7 from HB.out.trans ((show Below _ _ _ from ((Below.refl _ _).alloc (by omega) _)).trans (hb.mono (by first | omega | (simp <;> omega)))))
      have Ha : Hid (w7.rangeAt (w1.heap.size) 0 [.int .i64 a.a.re, .int .i64 a.a.im, .int .i64 a.a.den, .int .i64 a.b.re, .int .i64 a.b.im, .int .i64 a.b.den, .int .i64 a.c.re, .int .i64 a.c.im, .int .i64 a.c.den, .int .i64 a.d.re, .int .i64 a.d.im, .int .i64 a.d.den]) := rangeAt_below (World.rangeAt_alloc Ha.out _) hb (by first | omega | (simp; done) | (simp <;> omega))
      have Hb : Hid (w7.rangeAt (w1.heap.size + 1) 0 [.int .i64 b.a.re, .int .i64 b.a.im, .int .i64 b.a.den, .int .i64 b.b.re, .int .i64 b.b.im, .int .i64 b.b.den, .int .i64 b.c.re, .int .i64 b.c.im, .int .i64 b.c.den, .int .i64 b.d.re, .int .i64 b.d.im, .int .i64 b.d.den]) := rangeAt_below (World.rangeAt_alloc Hb.out _) hb (by first | omega | (simp; done) | (simp <;> omega))
      have Ho : Hid (w7.rangeAt (w2.heap.size) 0 [.int .i64 m.a.re, .int .i64 m.a.im, .int .i64 m.a.den, .int .i64 m.b.re, .int .i64 m.b.im, .int .i64 m.b.den, .int .i64 m.c.re, .int .i64 m.c.im, .int .i64 m.c.den, .int .i64 m.d.re, .int .i64 m.d.im, .int .i64 m.d.den]) := rangeAt_below (World.rangeAt_alloc Ho.out _) hb (by first | omega | (simp; done) | (simp <;> omega))
      have Hq : Hid (w7.rangeAt (w3.heap.size) 0 [.int .i64 m.a.re, .int .i64 m.a.im, .int .i64 m.a.den, .int .i64 m.b.re, .int .i64 m.b.im, .int .i64 m.b.den, .int .i64 m.c.re, .int .i64 m.c.im, .int .i64 m.c.den, .int .i64 m.d.re, .int .i64 m.d.im, .int .i64 m.d.den]) := rangeAt_below (World.rangeAt_alloc Hq.out _) hb (by first | omega | (simp; done) | (simp <;> omega))
      have Hx : Hid (w7.rangeAt (w4.heap.size) 0 [.int .i64 m.a.re, .int .i64 m.a.im, .int .i64 m.a.den, .int .i64 m.b.re, .int .i64 m.b.im, .int .i64 m.b.den, .int .i64 m.c.re, .int .i64 m.c.im, .int .i64 m.c.den, .int .i64 m.d.re, .int .i64 m.d.im, .int .i64 m.d.den]) := rangeAt_below (World.rangeAt_alloc Hx.out _) hb (by first | omega | (simp; done) | (simp <;> omega))
      have Hs1 : Hid (w7.rangeAt (w5.heap.size) 0 [.int .i64 s.re, .int .i64 s.im, .int .i64 s.den]) := rangeAt_below (World.rangeAt_alloc Hs1.out _) hb (by first | omega | (simp; done) | (simp <;> omega))
      have Ht1 : Hid (w7.rangeAt w6.heap.size 0 [.int .i64 t.re, .int .i64 t.im, .int .i64 t.den]) := rangeAt_below (rangeAt_new _ _ _) hb (by first | omega | (simp; done) | (simp <;> omega))
      have hz7 := hb.size
      (try simp at hz7)
      clear hb
      have nA0 : w1.heap.size < w7.heap.size := by omega
      have nB0 : ¬ w1.heap.size = w7.heap.size := by omega
      have nC0 : ¬ w7.heap.size = w1.heap.size := by omega
      have nA1 : w1.heap.size + 1 < w7.heap.size := by omega
      have nB1 : ¬ w1.heap.size + 1 = w7.heap.size := by omega
      have nC1 : ¬ w7.heap.size = w1.heap.size + 1 := by omega
      have nA2 : w2.heap.size < w7.heap.size := by omega
      have nB2 : ¬ w2.heap.size = w7.heap.size := by omega
      have nC2 : ¬ w7.heap.size = w2.heap.size := by omega
      have nA3 : w3.heap.size < w7.heap.size := by omega
      have nB3 : ¬ w3.heap.size = w7.heap.size := by omega
      have nC3 : ¬ w7.heap.size = w3.heap.size := by omega
      have nA4 : w4.heap.size < w7.heap.size := by omega
      have nB4 : ¬ w4.heap.size = w7.heap.size := by omega
      have nC4 : ¬ w7.heap.size = w4.heap.size := by omega
      have nA5 : w5.heap.size < w7.heap.size := by omega
      have nB5 : ¬ w5.heap.size = w7.heap.size := by omega
      have nC5 : ¬ w7.heap.size = w5.heap.size := by omega
      have nA6 : w6.heap.size < w7.heap.size := by omega
      have nB6 : ¬ w6.heap.size = w7.heap.size := by omega
      have nC6 : ¬ w7.heap.size = w6.heap.size := by omega
      have zb_0 : w7.cell? ⟨w1.heap.size + 1, 0, none⟩ = some (.int .i64 b.a.re) := by have := Hb.out 0 _ rfl; rwa [Nat.zero_add] at this
      have zb_1 : w7.cell? ⟨w1.heap.size + 1, 1, none⟩ = some (.int .i64 b.a.im) := by have := Hb.out 1 _ rfl; rwa [Nat.zero_add] at this
      have zb_2 : w7.cell? ⟨w1.heap.size + 1, 2, none⟩ = some (.int .i64 b.a.den) := by have := Hb.out 2 _ rfl; rwa [Nat.zero_add] at this
      have zb_3 : w7.cell? ⟨w1.heap.size + 1, 3, none⟩ = some (.int .i64 b.b.re) := by have := Hb.out 3 _ rfl; rwa [Nat.zero_add] at this
      have zb_4 : w7.cell? ⟨w1.heap.size + 1, 4, none⟩ = some (.int .i64 b.b.im) := by have := Hb.out 4 _ rfl; rwa [Nat.zero_add] at this
      have zb_5 : w7.cell? ⟨w1.heap.size + 1, 5, none⟩ = some (.int .i64 b.b.den) := by have := Hb.out 5 _ rfl; rwa [Nat.zero_add] at this
      have zb_6 : w7.cell? ⟨w1.heap.size + 1, 6, none⟩ = some (.int .i64 b.c.re) := by have := Hb.out 6 _ rfl; rwa [Nat.zero_add] at this
      have zb_7 : w7.cell? ⟨w1.heap.size + 1, 7, none⟩ = some (.int .i64 b.c.im) := by have := Hb.out 7 _ rfl; rwa [Nat.zero_add] at this
      have zb_8 : w7.cell? ⟨w1.heap.size + 1, 8, none⟩ = some (.int .i64 b.c.den) := by have := Hb.out 8 _ rfl; rwa [Nat.zero_add] at this
      have zb_9 : w7.cell? ⟨w1.heap.size + 1, 9, none⟩ = some (.int .i64 b.d.re) := by have := Hb.out 9 _ rfl; rwa [Nat.zero_add] at this
      have zb_10 : w7.cell? ⟨w1.heap.size + 1, 10, none⟩ = some (.int .i64 b.d.im) := by have := Hb.out 10 _ rfl; rwa [Nat.zero_add] at this
      have zb_11 : w7.cell? ⟨w1.heap.size + 1, 11, none⟩ = some (.int .i64 b.d.den) := by have := Hb.out 11 _ rfl; rwa [Nat.zero_add] at this
      go_wp2_with (first | ((with_reducible refine wpList_load_mid ?kl231 27 ?kl23x ?kl232 (w1.heap.size + 1) 0 ?kl233 [.int .i64 b.a.re, .int .i64 b.a.im, .int .i64 b.a.den, .int .i64 b.b.re, .int .i64 b.b.im, .int .i64 b.b.den, .int .i64 b.c.re, .int .i64 b.c.im, .int .i64 b.c.den, .int .i64 b.d.re, .int .i64 b.d.im, .int .i64 b.d.den] ?kl23d ?kl234 ?kl235 ?kl236 ?kl237 ?kl238); (case kl232 => rfl); (case kl231 => rfl); (case kl233 => rfl); (case kl234 => (exact Hb.out)); (case kl235 => exact Try.underlying27); (case kl236 => rfl); (case kl237 => kernel_rfl)))
      refine (ilight_any b _).mono ?_
      rintro e w8 ho
      rw [hl2] at ho
      obtain ⟨rfl, hb⟩ : e = .returned (.bool false) ∧ Below _ _ _ := (id ho)
      clear ho
      have HB := Lib.hid (show Below w.heap.size w w8 from HB.out.trans ((show Below _ _ _ from (Below.refl _ _)).trans (hb.mono (by first | omega | (simp <;> omega)))))
      have Ha : Hid (w8.rangeAt (w1.heap.size) 0 [.int .i64 a.a.re, .int .i64 a.a.im, .int .i64 a.a.den, .int .i64 a.b.re, .int .i64 a.b.im, .int .i64 a.b.den, .int .i64 a.c.re, .int .i64 a.c.im, .int .i64 a.c.den, .int .i64 a.d.re, .int .i64 a.d.im, .int .i64 a.d.den]) := rangeAt_below Ha.out hb (by omega)
      have Hb : Hid (w8.rangeAt (w1.heap.size + 1) 0 [.int .i64 b.a.re, .int .i64 b.a.im, .int .i64 b.a.den, .int .i64 b.b.re, .int .i64 b.b.im, .int .i64 b.b.den, .int .i64 b.c.re, .int .i64 b.c.im, .int .i64 b.c.den, .int .i64 b.d.re, .int .i64 b.d.im, .int .i64 b.d.den]) := rangeAt_below Hb.out hb (by omega)
      have Ho : Hid (w8.rangeAt (w2.heap.size) 0 [.int .i64 m.a.re, .int .i64 m.a.im, .int .i64 m.a.den, .int .i64 m.b.re, .int .i64 m.b.im, .int .i64 m.b.den, .int .i64 m.c.re, .int .i64 m.c.im, .int .i64 m.c.den, .int .i64 m.d.re, .int .i64 m.d.im, .int .i64 m.d.den]) := rangeAt_below Ho.out hb (by omega)
      have Hq : Hid (w8.rangeAt (w3.heap.size) 0 [.int .i64 m.a.re, .int .i64 m.a.im, .int .i64 m.a.den, .int .i64 m.b.re, .int .i64 m.b.im, .int .i64 m.b.den, .int .i64 m.c.re, .int .i64 m.c.im, .int .i64 m.c.den, .int .i64 m.d.re, .int .i64 m.d.im, .int .i64 m.d.den]) := rangeAt_below Hq.out hb (by omega)
      have Hx : Hid (w8.rangeAt (w4.heap.size) 0 [.int .i64 m.a.re, .int .i64 m.a.im, .int .i64 m.a.den, .int .i64 m.b.re, .int .i64 m.b.im, .int .i64 m.b.den, .int .i64 m.c.re, .int .i64 m.c.im, .int .i64 m.c.den, .int .i64 m.d.re, .int .i64 m.d.im, .int .i64 m.d.den]) := rangeAt_below Hx.out hb (by omega)
      have Hs1 : Hid (w8.rangeAt (w5.heap.size) 0 [.int .i64 s.re, .int .i64 s.im, .int .i64 s.den]) := rangeAt_below Hs1.out hb (by omega)
      have Ht1 : Hid (w8.rangeAt (w6.heap.size) 0 [.int .i64 t.re, .int .i64 t.im, .int .i64 t.den]) := rangeAt_below Ht1.out hb (by omega)
      have hz8 := hb.size
      (try simp at hz8)
      clear hb
      have nA0 : w1.heap.size < w8.heap.size := by omega
      have nB0 : ¬ w1.heap.size = w8.heap.size := by omega
      have nC0 : ¬ w8.heap.size = w1.heap.size := by omega
      have nA1 : w1.heap.size + 1 < w8.heap.size := by omega
      have nB1 : ¬ w1.heap.size + 1 = w8.heap.size := by omega
      have nC1 : ¬ w8.heap.size = w1.heap.size + 1 := by omega
      have nA2 : w2.heap.size < w8.heap.size := by omega
      have nB2 : ¬ w2.heap.size = w8.heap.size := by omega
      have nC2 : ¬ w8.heap.size = w2.heap.size := by omega
      have nA3 : w3.heap.size < w8.heap.size := by omega
      have nB3 : ¬ w3.heap.size = w8.heap.size := by omega
      have nC3 : ¬ w8.heap.size = w3.heap.size := by omega
      have nA4 : w4.heap.size < w8.heap.size := by omega
      have nB4 : ¬ w4.heap.size = w8.heap.size := by omega
      have nC4 : ¬ w8.heap.size = w4.heap.size := by omega
      have nA5 : w5.heap.size < w8.heap.size := by omega
      have nB5 : ¬ w5.heap.size = w8.heap.size := by omega
      have nC5 : ¬ w8.heap.size = w5.heap.size := by omega
      have nA6 : w6.heap.size < w8.heap.size := by omega
      have nB6 : ¬ w6.heap.size = w8.heap.size := by omega
      have nC6 : ¬ w8.heap.size = w6.heap.size := by omega
      have zo_0 : w8.cell? ⟨w2.heap.size, 0, none⟩ = some (.int .i64 m.a.re) := by have := Ho.out 0 _ rfl; rwa [Nat.zero_add] at this
      have zo_1 : w8.cell? ⟨w2.heap.size, 1, none⟩ = some (.int .i64 m.a.im) := by have := Ho.out 1 _ rfl; rwa [Nat.zero_add] at this
      have zo_2 : w8.cell? ⟨w2.heap.size, 2, none⟩ = some (.int .i64 m.a.den) := by have := Ho.out 2 _ rfl; rwa [Nat.zero_add] at this
      have zo_3 : w8.cell? ⟨w2.heap.size, 3, none⟩ = some (.int .i64 m.b.re) := by have := Ho.out 3 _ rfl; rwa [Nat.zero_add] at this
      have zo_4 : w8.cell? ⟨w2.heap.size, 4, none⟩ = some (.int .i64 m.b.im) := by have := Ho.out 4 _ rfl; rwa [Nat.zero_add] at this
      have zo_5 : w8.cell? ⟨w2.heap.size, 5, none⟩ = some (.int .i64 m.b.den) := by have := Ho.out 5 _ rfl; rwa [Nat.zero_add] at this
      have zo_6 : w8.cell? ⟨w2.heap.size, 6, none⟩ = some (.int .i64 m.c.re) := by have := Ho.out 6 _ rfl; rwa [Nat.zero_add] at this
      have zo_7 : w8.cell? ⟨w2.heap.size, 7, none⟩ = some (.int .i64 m.c.im) := by have := Ho.out 7 _ rfl; rwa [Nat.zero_add] at this
      have zo_8 : w8.cell? ⟨w2.heap.size, 8, none⟩ = some (.int .i64 m.c.den) := by have := Ho.out 8 _ rfl; rwa [Nat.zero_add] at this
      have zo_9 : w8.cell? ⟨w2.heap.size, 9, none⟩ = some (.int .i64 m.d.re) := by have := Ho.out 9 _ rfl; rwa [Nat.zero_add] at this
      have zo_10 : w8.cell? ⟨w2.heap.size, 10, none⟩ = some (.int .i64 m.d.im) := by have := Ho.out 10 _ rfl; rwa [Nat.zero_add] at this
      have zo_11 : w8.cell? ⟨w2.heap.size, 11, none⟩ = some (.int .i64 m.d.den) := by have := Ho.out 11 _ rfl; rwa [Nat.zero_add] at this
      have zx_0 : w8.cell? ⟨w4.heap.size, 0, none⟩ = some (.int .i64 m.a.re) := by have := Hx.out 0 _ rfl; rwa [Nat.zero_add] at this
      have zx_1 : w8.cell? ⟨w4.heap.size, 1, none⟩ = some (.int .i64 m.a.im) := by have := Hx.out 1 _ rfl; rwa [Nat.zero_add] at this
      have zx_2 : w8.cell? ⟨w4.heap.size, 2, none⟩ = some (.int .i64 m.a.den) := by have := Hx.out 2 _ rfl; rwa [Nat.zero_add] at this
      have zx_3 : w8.cell? ⟨w4.heap.size, 3, none⟩ = some (.int .i64 m.b.re) := by have := Hx.out 3 _ rfl; rwa [Nat.zero_add] at this
      have zx_4 : w8.cell? ⟨w4.heap.size, 4, none⟩ = some (.int .i64 m.b.im) := by have := Hx.out 4 _ rfl; rwa [Nat.zero_add] at this
      have zx_5 : w8.cell? ⟨w4.heap.size, 5, none⟩ = some (.int .i64 m.b.den) := by have := Hx.out 5 _ rfl; rwa [Nat.zero_add] at this
      have zx_6 : w8.cell? ⟨w4.heap.size, 6, none⟩ = some (.int .i64 m.c.re) := by have := Hx.out 6 _ rfl; rwa [Nat.zero_add] at this
      have zx_7 : w8.cell? ⟨w4.heap.size, 7, none⟩ = some (.int .i64 m.c.im) := by have := Hx.out 7 _ rfl; rwa [Nat.zero_add] at this
      have zx_8 : w8.cell? ⟨w4.heap.size, 8, none⟩ = some (.int .i64 m.c.den) := by have := Hx.out 8 _ rfl; rwa [Nat.zero_add] at this
      have zx_9 : w8.cell? ⟨w4.heap.size, 9, none⟩ = some (.int .i64 m.d.re) := by have := Hx.out 9 _ rfl; rwa [Nat.zero_add] at this
      have zx_10 : w8.cell? ⟨w4.heap.size, 10, none⟩ = some (.int .i64 m.d.im) := by have := Hx.out 10 _ rfl; rwa [Nat.zero_add] at this
      have zx_11 : w8.cell? ⟨w4.heap.size, 11, none⟩ = some (.int .i64 m.d.den) := by have := Hx.out 11 _ rfl; rwa [Nat.zero_add] at this
      go_wp2_with fail
      go_ret
      exact ⟨rfl, (by (repeat' first | (with_reducible exact HB.out) | with_reducible refine setCells_below _ _ _ ?_ (by first | omega | (simp <;> omega)) | with_reducible refine Below.setCell ?_ (by show _ ≤ _; first | omega | (simp <;> omega) | simp) _ | with_reducible refine Below.alloc ?_ (by first | omega | (simp <;> omega)) _ | with_reducible apply Below.drew))⟩
    go_wp2_with (first | ((with_reducible refine wpList_load_mid ?kl241 27 ?kl24x ?kl242 (w1.heap.size) 0 ?kl243 [.int .i64 a.a.re, .int .i64 a.a.im, .int .i64 a.a.den, .int .i64 a.b.re, .int .i64 a.b.im, .int .i64 a.b.den, .int .i64 a.c.re, .int .i64 a.c.im, .int .i64 a.c.den, .int .i64 a.d.re, .int .i64 a.d.im, .int .i64 a.d.den] ?kl24d ?kl244 ?kl245 ?kl246 ?kl247 ?kl248); (case kl242 => rfl); (case kl241 => rfl); (case kl243 => rfl); (case kl244 => (exact (World.rangeAt_alloc Ha.out _))); (case kl245 => exact Try.underlying27); (case kl246 => rfl); (case kl247 => kernel_rfl)))
    refine (ilight_any a _).mono ?_
    rintro e w7 ho
    rw [hl] at ho
    obtain ⟨rfl, hb⟩ : e = .returned (.bool true) ∧ Below _ _ _ := (id ho)
    clear ho
    have HB := Lib.hid (show Below w.heap.size w w7 from HB.out.trans ((show Below _ _ _ from ((Below.refl _ _).alloc (by omega) _)).trans (hb.mono (by first | omega | (simp <;> omega)))))
    have Ha : Hid (w7.rangeAt (w1.heap.size) 0 [.int .i64 a.a.re, .int .i64 a.a.im, .int .i64 a.a.den, .int .i64 a.b.re, .int .i64 a.b.im, .int .i64 a.b.den, .int .i64 a.c.re, .int .i64 a.c.im, .int .i64 a.c.den, .int .i64 a.d.re, .int .i64 a.d.im, .int .i64 a.d.den]) := rangeAt_below (World.rangeAt_alloc Ha.out _) hb (by first | omega | (simp; done) | (simp <;> omega))
    have Hb : Hid (w7.rangeAt (w1.heap.size + 1) 0 [.int .i64 b.a.re, .int .i64 b.a.im, .int .i64 b.a.den, .int .i64 b.b.re, .int .i64 b.b.im, .int .i64 b.b.den, .int .i64 b.c.re, .int .i64 b.c.im, .int .i64 b.c.den, .int .i64 b.d.re, .int .i64 b.d.im, .int .i64 b.d.den]) := rangeAt_below (World.rangeAt_alloc Hb.out _) hb (by first | omega | (simp; done) | (simp <;> omega))
    have Ho : Hid (w7.rangeAt (w2.heap.size) 0 [.int .i64 m.a.re, .int .i64 m.a.im, .int .i64 m.a.den, .int .i64 m.b.re, .int .i64 m.b.im, .int .i64 m.b.den, .int .i64 m.c.re, .int .i64 m.c.im, .int .i64 m.c.den, .int .i64 m.d.re, .int .i64 m.d.im, .int .i64 m.d.den]) := rangeAt_below (World.rangeAt_alloc Ho.out _) hb (by first | omega | (simp; done) | (simp <;> omega))
    have Hq : Hid (w7.rangeAt (w3.heap.size) 0 [.int .i64 m.a.re, .int .i64 m.a.im, .int .i64 m.a.den, .int .i64 m.b.re, .int .i64 m.b.im, .int .i64 m.b.den, .int .i64 m.c.re, .int .i64 m.c.im, .int .i64 m.c.den, .int .i64 m.d.re, .int .i64 m.d.im, .int .i64 m.d.den]) := rangeAt_below (World.rangeAt_alloc Hq.out _) hb (by first | omega | (simp; done) | (simp <;> omega))
    have Hx : Hid (w7.rangeAt (w4.heap.size) 0 [.int .i64 m.a.re, .int .i64 m.a.im, .int .i64 m.a.den, .int .i64 m.b.re, .int .i64 m.b.im, .int .i64 m.b.den, .int .i64 m.c.re, .int .i64 m.c.im, .int .i64 m.c.den, .int .i64 m.d.re, .int .i64 m.d.im, .int .i64 m.d.den]) := rangeAt_below (World.rangeAt_alloc Hx.out _) hb (by first | omega | (simp; done) | (simp <;> omega))
    have Hs1 : Hid (w7.rangeAt (w5.heap.size) 0 [.int .i64 s.re, .int .i64 s.im, .int .i64 s.den]) := rangeAt_below (World.rangeAt_alloc Hs1.out _) hb (by first | omega | (simp; done) | (simp <;> omega))
    have Ht1 : Hid (w7.rangeAt w6.heap.size 0 [.int .i64 t.re, .int .i64 t.im, .int .i64 t.den]) := rangeAt_below (rangeAt_new _ _ _) hb (by first | omega | (simp; done) | (simp <;> omega))
    have hz7 := hb.size
    (try simp at hz7)
    clear hb
    have nA0 : w1.heap.size < w7.heap.size := by omega
    have nB0 : ¬ w1.heap.size = w7.heap.size := by omega
    have nC0 : ¬ w7.heap.size = w1.heap.size := by omega
    have nA1 : w1.heap.size + 1 < w7.heap.size := by omega
    have nB1 : ¬ w1.heap.size + 1 = w7.heap.size := by omega
    have nC1 : ¬ w7.heap.size = w1.heap.size + 1 := by omega
    have nA2 : w2.heap.size < w7.heap.size := by omega
    have nB2 : ¬ w2.heap.size = w7.heap.size := by omega
    have nC2 : ¬ w7.heap.size = w2.heap.size := by omega
    have nA3 : w3.heap.size < w7.heap.size := by omega
    have nB3 : ¬ w3.heap.size = w7.heap.size := by omega
    have nC3 : ¬ w7.heap.size = w3.heap.size := by omega
    have nA4 : w4.heap.size < w7.heap.size := by omega
    have nB4 : ¬ w4.heap.size = w7.heap.size := by omega
    have nC4 : ¬ w7.heap.size = w4.heap.size := by omega
    have nA5 : w5.heap.size < w7.heap.size := by omega
    have nB5 : ¬ w5.heap.size = w7.heap.size := by omega
    have nC5 : ¬ w7.heap.size = w5.heap.size := by omega
    have nA6 : w6.heap.size < w7.heap.size := by omega
    have nB6 : ¬ w6.heap.size = w7.heap.size := by omega
    have nC6 : ¬ w7.heap.size = w6.heap.size := by omega
    have zb_0 : w7.cell? ⟨w1.heap.size + 1, 0, none⟩ = some (.int .i64 b.a.re) := by have := Hb.out 0 _ rfl; rwa [Nat.zero_add] at this
    have zb_1 : w7.cell? ⟨w1.heap.size + 1, 1, none⟩ = some (.int .i64 b.a.im) := by have := Hb.out 1 _ rfl; rwa [Nat.zero_add] at this
    have zb_2 : w7.cell? ⟨w1.heap.size + 1, 2, none⟩ = some (.int .i64 b.a.den) := by have := Hb.out 2 _ rfl; rwa [Nat.zero_add] at this
    have zb_3 : w7.cell? ⟨w1.heap.size + 1, 3, none⟩ = some (.int .i64 b.b.re) := by have := Hb.out 3 _ rfl; rwa [Nat.zero_add] at this
    have zb_4 : w7.cell? ⟨w1.heap.size + 1, 4, none⟩ = some (.int .i64 b.b.im) := by have := Hb.out 4 _ rfl; rwa [Nat.zero_add] at this
    have zb_5 : w7.cell? ⟨w1.heap.size + 1, 5, none⟩ = some (.int .i64 b.b.den) := by have := Hb.out 5 _ rfl; rwa [Nat.zero_add] at this
    have zb_6 : w7.cell? ⟨w1.heap.size + 1, 6, none⟩ = some (.int .i64 b.c.re) := by have := Hb.out 6 _ rfl; rwa [Nat.zero_add] at this
    have zb_7 : w7.cell? ⟨w1.heap.size + 1, 7, none⟩ = some (.int .i64 b.c.im) := by have := Hb.out 7 _ rfl; rwa [Nat.zero_add] at this
    have zb_8 : w7.cell? ⟨w1.heap.size + 1, 8, none⟩ = some (.int .i64 b.c.den) := by have := Hb.out 8 _ rfl; rwa [Nat.zero_add] at this
    have zb_9 : w7.cell? ⟨w1.heap.size + 1, 9, none⟩ = some (.int .i64 b.d.re) := by have := Hb.out 9 _ rfl; rwa [Nat.zero_add] at this
    have zb_10 : w7.cell? ⟨w1.heap.size + 1, 10, none⟩ = some (.int .i64 b.d.im) := by have := Hb.out 10 _ rfl; rwa [Nat.zero_add] at this
    have zb_11 : w7.cell? ⟨w1.heap.size + 1, 11, none⟩ = some (.int .i64 b.d.den) := by have := Hb.out 11 _ rfl; rwa [Nat.zero_add] at this
    go_wp2_with (first | ((with_reducible refine wpList_load_mid ?kl251 27 ?kl25x ?kl252 (w1.heap.size + 1) 0 ?kl253 [.int .i64 b.a.re, .int .i64 b.a.im, .int .i64 b.a.den, .int .i64 b.b.re, .int .i64 b.b.im, .int .i64 b.b.den, .int .i64 b.c.re, .int .i64 b.c.im, .int .i64 b.c.den, .int .i64 b.d.re, .int .i64 b.d.im, .int .i64 b.d.den] ?kl25d ?kl254 ?kl255 ?kl256 ?kl257 ?kl258); (case kl252 => rfl); (case kl251 => rfl); (case kl253 => rfl); (case kl254 => (exact Hb.out)); (case kl255 => exact Try.underlying27); (case kl256 => rfl); (case kl257 => kernel_rfl)))
    refine (ilight_any b _).mono ?_
    rintro e w8 ho
    rw [hl2] at ho
    obtain ⟨rfl, hb⟩ : e = .returned (.bool true) ∧ Below _ _ _ := (id ho)
    clear ho
    have HB := Lib.hid (show Below w.heap.size w w8 from HB.out.trans ((show Below _ _ _ from (Below.refl _ _)).trans (hb.mono (by first | omega | (simp <;> omega)))))
    have Ha : Hid (w8.rangeAt (w1.heap.size) 0 [.int .i64 a.a.re, .int .i64 a.a.im, .int .i64 a.a.den, .int .i64 a.b.re, .int .i64 a.b.im, .int .i64 a.b.den, .int .i64 a.c.re, .int .i64 a.c.im, .int .i64 a.c.den, .int .i64 a.d.re, .int .i64 a.d.im, .int .i64 a.d.den]) := rangeAt_below Ha.out hb (by omega)
    have Hb : Hid (w8.rangeAt (w1.heap.size + 1) 0 [.int .i64 b.a.re, .int .i64 b.a.im, .int .i64 b.a.den, .int .i64 b.b.re, .int .i64 b.b.im, .int .i64 b.b.den, .int .i64 b.c.re, .int .i64 b.c.im, .int .i64 b.c.den, .int .i64 b.d.re, .int .i64 b.d.im, .int .i64 b.d.den]) := rangeAt_below Hb.out hb (by omega)
    have Ho : Hid (w8.rangeAt (w2.heap.size) 0 [.int .i64 m.a.re, .int .i64 m.a.im, .int .i64 m.a.den, .int .i64 m.b.re, .int .i64 m.b.im, .int .i64 m.b.den, .int .i64 m.c.re, .int .i64 m.c.im, .int .i64 m.c.den, .int .i64 m.d.re, .int .i64 m.d.im, .int .i64 m.d.den]) := rangeAt_below Ho.out hb (by omega)
    have Hq : Hid (w8.rangeAt (w3.heap.size) 0 [.int .i64 m.a.re, .int .i64 m.a.im, .int .i64 m.a.den, .int .i64 m.b.re, .int .i64 m.b.im, .int .i64 m.b.den, .int .i64 m.c.re, .int .i64 m.c.im, .int .i64 m.c.den, .int .i64 m.d.re, .int .i64 m.d.im, .int .i64 m.d.den]) := rangeAt_below Hq.out hb (by omega)
    have Hx : Hid (w8.rangeAt (w4.heap.size) 0 [.int .i64 m.a.re, .int .i64 m.a.im, .int .i64 m.a.den, .int .i64 m.b.re, .int .i64 m.b.im, .int .i64 m.b.den, .int .i64 m.c.re, .int .i64 m.c.im, .int .i64 m.c.den, .int .i64 m.d.re, .int .i64 m.d.im, .int .i64 m.d.den]) := rangeAt_below Hx.out hb (by omega)
    have Hs1 : Hid (w8.rangeAt (w5.heap.size) 0 [.int .i64 s.re, .int .i64 s.im, .int .i64 s.den]) := rangeAt_below Hs1.out hb (by omega)
    have Ht1 : Hid (w8.rangeAt (w6.heap.size) 0 [.int .i64 t.re, .int .i64 t.im, .int .i64 t.den]) := rangeAt_below Ht1.out hb (by omega)
    have hz8 := hb.size
    (try simp at hz8)
    clear hb
    have nA0 : w1.heap.size < w8.heap.size := by omega
    have nB0 : ¬ w1.heap.size = w8.heap.size := by omega
    have nC0 : ¬ w8.heap.size = w1.heap.size := by omega
    have nA1 : w1.heap.size + 1 < w8.heap.size := by omega
    have nB1 : ¬ w1.heap.size + 1 = w8.heap.size := by omega
    have nC1 : ¬ w8.heap.size = w1.heap.size + 1 := by omega
    have nA2 : w2.heap.size < w8.heap.size := by omega
    have nB2 : ¬ w2.heap.size = w8.heap.size := by omega
    have nC2 : ¬ w8.heap.size = w2.heap.size := by omega
    have nA3 : w3.heap.size < w8.heap.size := by omega
    have nB3 : ¬ w3.heap.size = w8.heap.size := by omega
    have nC3 : ¬ w8.heap.size = w3.heap.size := by omega
    have nA4 : w4.heap.size < w8.heap.size := by omega
    have nB4 : ¬ w4.heap.size = w8.heap.size := by omega
    have nC4 : ¬ w8.heap.size = w4.heap.size := by omega
    have nA5 : w5.heap.size < w8.heap.size := by omega
    have nB5 : ¬ w5.heap.size = w8.heap.size := by omega
    have nC5 : ¬ w8.heap.size = w5.heap.size := by omega
    have nA6 : w6.heap.size < w8.heap.size := by omega
    have nB6 : ¬ w6.heap.size = w8.heap.size := by omega
    have nC6 : ¬ w8.heap.size = w6.heap.size := by omega
    have zo_0 : w8.cell? ⟨w2.heap.size, 0, none⟩ = some (.int .i64 m.a.re) := by have := Ho.out 0 _ rfl; rwa [Nat.zero_add] at this
    have zo_1 : w8.cell? ⟨w2.heap.size, 1, none⟩ = some (.int .i64 m.a.im) := by have := Ho.out 1 _ rfl; rwa [Nat.zero_add] at this
    have zo_2 : w8.cell? ⟨w2.heap.size, 2, none⟩ = some (.int .i64 m.a.den) := by have := Ho.out 2 _ rfl; rwa [Nat.zero_add] at this
    have zo_3 : w8.cell? ⟨w2.heap.size, 3, none⟩ = some (.int .i64 m.b.re) := by have := Ho.out 3 _ rfl; rwa [Nat.zero_add] at this
    have zo_4 : w8.cell? ⟨w2.heap.size, 4, none⟩ = some (.int .i64 m.b.im) := by have := Ho.out 4 _ rfl; rwa [Nat.zero_add] at this
    have zo_5 : w8.cell? ⟨w2.heap.size, 5, none⟩ = some (.int .i64 m.b.den) := by have := Ho.out 5 _ rfl; rwa [Nat.zero_add] at this
    have zo_6 : w8.cell? ⟨w2.heap.size, 6, none⟩ = some (.int .i64 m.c.re) := by have := Ho.out 6 _ rfl; rwa [Nat.zero_add] at this
    have zo_7 : w8.cell? ⟨w2.heap.size, 7, none⟩ = some (.int .i64 m.c.im) := by have := Ho.out 7 _ rfl; rwa [Nat.zero_add] at this
    have zo_8 : w8.cell? ⟨w2.heap.size, 8, none⟩ = some (.int .i64 m.c.den) := by have := Ho.out 8 _ rfl; rwa [Nat.zero_add] at this
    have zo_9 : w8.cell? ⟨w2.heap.size, 9, none⟩ = some (.int .i64 m.d.re) := by have := Ho.out 9 _ rfl; rwa [Nat.zero_add] at this
    have zo_10 : w8.cell? ⟨w2.heap.size, 10, none⟩ = some (.int .i64 m.d.im) := by have := Ho.out 10 _ rfl; rwa [Nat.zero_add] at this
    have zo_11 : w8.cell? ⟨w2.heap.size, 11, none⟩ = some (.int .i64 m.d.den) := by have := Ho.out 11 _ rfl; rwa [Nat.zero_add] at this
    have zx_0 : w8.cell? ⟨w4.heap.size, 0, none⟩ = some (.int .i64 m.a.re) := by have := Hx.out 0 _ rfl; rwa [Nat.zero_add] at this
    have zx_1 : w8.cell? ⟨w4.heap.size, 1, none⟩ = some (.int .i64 m.a.im) := by have := Hx.out 1 _ rfl; rwa [Nat.zero_add] at this
    have zx_2 : w8.cell? ⟨w4.heap.size, 2, none⟩ = some (.int .i64 m.a.den) := by have := Hx.out 2 _ rfl; rwa [Nat.zero_add] at this
    have zx_3 : w8.cell? ⟨w4.heap.size, 3, none⟩ = some (.int .i64 m.b.re) := by have := Hx.out 3 _ rfl; rwa [Nat.zero_add] at this
    have zx_4 : w8.cell? ⟨w4.heap.size, 4, none⟩ = some (.int .i64 m.b.im) := by have := Hx.out 4 _ rfl; rwa [Nat.zero_add] at this
    have zx_5 : w8.cell? ⟨w4.heap.size, 5, none⟩ = some (.int .i64 m.b.den) := by have := Hx.out 5 _ rfl; rwa [Nat.zero_add] at this
    have zx_6 : w8.cell? ⟨w4.heap.size, 6, none⟩ = some (.int .i64 m.c.re) := by have := Hx.out 6 _ rfl; rwa [Nat.zero_add] at this
    have zx_7 : w8.cell? ⟨w4.heap.size, 7, none⟩ = some (.int .i64 m.c.im) := by have := Hx.out 7 _ rfl; rwa [Nat.zero_add] at this
    have zx_8 : w8.cell? ⟨w4.heap.size, 8, none⟩ = some (.int .i64 m.c.den) := by have := Hx.out 8 _ rfl; rwa [Nat.zero_add] at this
    have zx_9 : w8.cell? ⟨w4.heap.size, 9, none⟩ = some (.int .i64 m.d.re) := by have := Hx.out 9 _ rfl; rwa [Nat.zero_add] at this
    have zx_10 : w8.cell? ⟨w4.heap.size, 10, none⟩ = some (.int .i64 m.d.im) := by have := Hx.out 10 _ rfl; rwa [Nat.zero_add] at this
    have zx_11 : w8.cell? ⟨w4.heap.size, 11, none⟩ = some (.int .i64 m.d.den) := by have := Hx.out 11 _ rfl; rwa [Nat.zero_add] at this
    cases b1
    · skip
      go_wp2_with fail
      go_ret
      exact ⟨rfl, (by (repeat' first | (with_reducible exact HB.out) | with_reducible refine setCells_below _ _ _ ?_ (by first | omega | (simp <;> omega)) | with_reducible refine Below.setCell ?_ (by show _ ≤ _; first | omega | (simp <;> omega) | simp) _ | with_reducible refine Below.alloc ?_ (by first | omega | (simp <;> omega)) _ | with_reducible apply Below.drew))⟩
    cases b2
    · skip
      go_wp2_with fail
      go_ret
      exact ⟨rfl, (by (repeat' first | (with_reducible exact HB.out) | with_reducible refine setCells_below _ _ _ ?_ (by first | omega | (simp <;> omega)) | with_reducible refine Below.setCell ?_ (by show _ ≤ _; first | omega | (simp <;> omega) | simp) _ | with_reducible refine Below.alloc ?_ (by first | omega | (simp <;> omega)) _ | with_reducible apply Below.drew))⟩
    have HL := Lib.hid (hlaw hl hl2 HB1.out.symm HB2.out.symm)
    go_wp2_with fail
    refine (ilight_any m _).mono ?_
    rintro e w9 ho
    rw [HL.out] at ho
    obtain ⟨rfl, hb⟩ : e = .returned (.bool true) ∧ Below _ _ _ := (id ho)
    clear ho
    have HB := Lib.hid (show Below w.heap.size w w9 from HB.out.trans ((show Below _ _ _ from (Below.refl _ _)).trans (hb.mono (by first | omega | (simp <;> omega)))))
    have Ha : Hid (w9.rangeAt (w1.heap.size) 0 [.int .i64 a.a.re, .int .i64 a.a.im, .int .i64 a.a.den, .int .i64 a.b.re, .int .i64 a.b.im, .int .i64 a.b.den, .int .i64 a.c.re, .int .i64 a.c.im, .int .i64 a.c.den, .int .i64 a.d.re, .int .i64 a.d.im, .int .i64 a.d.den]) := rangeAt_below Ha.out hb (by omega)
    have Hb : Hid (w9.rangeAt (w1.heap.size + 1) 0 [.int .i64 b.a.re, .int .i64 b.a.im, .int .i64 b.a.den, .int .i64 b.b.re, .int .i64 b.b.im, .int .i64 b.b.den, .int .i64 b.c.re, .int .i64 b.c.im, .int .i64 b.c.den, .int .i64 b.d.re, .int .i64 b.d.im, .int .i64 b.d.den]) := rangeAt_below Hb.out hb (by omega)
    have Ho : Hid (w9.rangeAt (w2.heap.size) 0 [.int .i64 m.a.re, .int .i64 m.a.im, .int .i64 m.a.den, .int .i64 m.b.re, .int .i64 m.b.im, .int .i64 m.b.den, .int .i64 m.c.re, .int .i64 m.c.im, .int .i64 m.c.den, .int .i64 m.d.re, .int .i64 m.d.im, .int .i64 m.d.den]) := rangeAt_below Ho.out hb (by omega)
    have Hq : Hid (w9.rangeAt (w3.heap.size) 0 [.int .i64 m.a.re, .int .i64 m.a.im, .int .i64 m.a.den, .int .i64 m.b.re, .int .i64 m.b.im, .int .i64 m.b.den, .int .i64 m.c.re, .int .i64 m.c.im, .int .i64 m.c.den, .int .i64 m.d.re, .int .i64 m.d.im, .int .i64 m.d.den]) := rangeAt_below Hq.out hb (by omega)
    have Hx : Hid (w9.rangeAt (w4.heap.size) 0 [.int .i64 m.a.re, .int .i64 m.a.im, .int .i64 m.a.den, .int .i64 m.b.re, .int .i64 m.b.im, .int .i64 m.b.den, .int .i64 m.c.re, .int .i64 m.c.im, .int .i64 m.c.den, .int .i64 m.d.re, .int .i64 m.d.im, .int .i64 m.d.den]) := rangeAt_below Hx.out hb (by omega)
    have Hs1 : Hid (w9.rangeAt (w5.heap.size) 0 [.int .i64 s.re, .int .i64 s.im, .int .i64 s.den]) := rangeAt_below Hs1.out hb (by omega)
    have Ht1 : Hid (w9.rangeAt (w6.heap.size) 0 [.int .i64 t.re, .int .i64 t.im, .int .i64 t.den]) := rangeAt_below Ht1.out hb (by omega)
    have hz9 := hb.size
    (try simp at hz9)
    clear hb
    have nA0 : w1.heap.size < w9.heap.size := by omega
    have nB0 : ¬ w1.heap.size = w9.heap.size := by omega
    have nC0 : ¬ w9.heap.size = w1.heap.size := by omega
    have nA1 : w1.heap.size + 1 < w9.heap.size := by omega
    have nB1 : ¬ w1.heap.size + 1 = w9.heap.size := by omega
    have nC1 : ¬ w9.heap.size = w1.heap.size + 1 := by omega
    have nA2 : w2.heap.size < w9.heap.size := by omega
    have nB2 : ¬ w2.heap.size = w9.heap.size := by omega
    have nC2 : ¬ w9.heap.size = w2.heap.size := by omega
    have nA3 : w3.heap.size < w9.heap.size := by omega
    have nB3 : ¬ w3.heap.size = w9.heap.size := by omega
    have nC3 : ¬ w9.heap.size = w3.heap.size := by omega
    have nA4 : w4.heap.size < w9.heap.size := by omega
    have nB4 : ¬ w4.heap.size = w9.heap.size := by omega
    have nC4 : ¬ w9.heap.size = w4.heap.size := by omega
    have nA5 : w5.heap.size < w9.heap.size := by omega
    have nB5 : ¬ w5.heap.size = w9.heap.size := by omega
    have nC5 : ¬ w9.heap.size = w5.heap.size := by omega
    have nA6 : w6.heap.size < w9.heap.size := by omega
    have nB6 : ¬ w6.heap.size = w9.heap.size := by omega
    have nC6 : ¬ w9.heap.size = w6.heap.size := by omega
    go_wp2_with fail
    go_ret
    exact ⟨rfl, (by (repeat' first | (with_reducible exact HB.out) | with_reducible refine setCells_below _ _ _ ?_ (by first | omega | (simp <;> omega)) | with_reducible refine Below.setCell ?_ (by show _ ≤ _; first | omega | (simp <;> omega) | simp) _ | with_reducible refine Below.alloc ?_ (by first | omega | (simp <;> omega)) _ | with_reducible apply Below.drew))⟩

set_option maxRecDepth 100000 in
theorem lifted_FnStokesAdd (os : Os) (started : os.Started) (H : Type) (enc : TypeId × Value → H) :
    ReturnsInHanded {} Try.checked os 7 .any (Rows.fnStokesAddSpec.pre6 enc Try.prog Try.f7 Rows.fnStokesAddRow.domain false) (Rows.fnStokesAddSpec.post enc Try.prog Try.f7 false true false false) := by
  refine returnsInHanded_of_change (C := Try.checked) Try.own started (by kernel_rfl) Try.func7
    (ChangeSpec.witness6 (enc := enc) (C := Try.checked) false ⟨#[], #[.slice none 0 0], []⟩ 8 (by kernel_rfl) (by kernel_rfl) (by kernel_rfl) (by kernel_rfl)) ?_
  intro W base args ds gs before hval0 hW hcnd _
  have hval : ∀ (j : Nat) t v, Try.f7.params[j]? = some t → args[j]? = some v → Value.okWide Try.prog W .any base t v := hval0
  have hW' := hW
  obtain ⟨p, q, hA0, hV, rfl, hfz, hnd⟩ := hW
  have hA : DataW.TrodAll enc Try.prog W 0 (fun _ => true) true Try.f7.params.toList args.toList ds p := hA0
  rw [Try.params7] at hA hval
  obtain ⟨v0, d0, rfl, rfl, h0⟩ := trodAll_one hA
  obtain ⟨rfl, rfl⟩ := trodVars_none hV
  have h0k := h0
  obtain ⟨fuel, hf⟩ := h0
  clear hA0 hval0
  simp only [List.append_nil] at hW'
  have hlt : ∀ x ∈ p, x.block < W.heap.size := fun x hx => by simpa using hW'.lt x hx
  obtain ⟨a0, len, cap, rfl⟩ := okWide_slice Try.underlying22 (hval 0 22 v0 rfl rfl)
  obtain ⟨hcap, HC⟩ := open_code hf hlt
  refine (walk_FnStokesAdd a0 len cap W hcap HC).mono fun e W' ⟨he, hb⟩ => ?_
  subst he
  refine ⟨_, rfl, _, _, _, [], p, [], hW', trodAll_mk1 (shut_bool Try.underlying4 _), trodAll_mk1 (Below.trod Try.laidOut (by kernel_rfl) (of_decide_eq_true (by kernel_rfl)) h0k hb (fun x hx => hlt x (by simp [hx]))), rfl, hb.frame _, fun h => by cases h⟩

/-- THE STATEMENT. -/
theorem holds_FnStokesAdd : Rows.FnStokesAddSaid :=
  OpenClaim.holds_of_wide 7 Try.f7 rfl rfl rfl rfl rfl rfl rfl ⟨rfl, rfl, rfl, rfl, rfl⟩ rfl rfl rfl rfl rfl (by kernel_rfl) Try.func7 (by kernel_rfl)
    (of_decide_eq_true (by kernel_rfl)) (by unfold Func.isWrapper; first | (rw [if_pos (by decide +kernel)]; kernel_rfl) | (rw [if_neg (by decide +kernel)]; exact ⟨rfl, rfl⟩))
    (fun os started H enc _ => lifted_FnStokesAdd os started H enc)
end Go.Proofs.Ytdmddojidfggkaa
