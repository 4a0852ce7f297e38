/- Powers are inner products. -/
import Derived.Test.YtlmpbijhidnekaaDW
import Derived.Test.YtlmpbijhidnekaaDJ
import Derived.Test.YtlmpbijhidnekaaQM
import Derived.Test.YtlmpbijhidnekaaJ3
namespace Go.Proofs.Ytlmpbijhidnekaa
open Go.ChangeShapes Go.WideShapes Go.ChangeAt Go.RowKit Pol

set_option maxRecDepth 100000 in
set_option maxHeartbeats 40000000 in
theorem walk_FnJonesPower (a0 : Option Addr) (len cap : Nat) (w : World) (hcap : len ≤ cap) (HC : Code w.heap.size w a0 len) :
    Calls Try.prog 6 #[.slice a0 len cap] w fun e w' => e = .returned (.bool true) ∧ Below w.heap.size w w' := by
  by_cases hbig : 1048576 < len
  · have h1 : (1048576 : Int) < (len : Int) := by omega
    go_enter Try.func6, Try.ntmps6
    go_wp2
    go_ret
    exact ⟨rfl, Below.refl _ _⟩
  have h1 : ¬ (1048576 : Int) < (len : Int) := by omega
  go_enter Try.func6, Try.ntmps6
  go_wp2_with fail
  refine (DrawJonesPower_any a0 len cap _ hcap HC).mono ?_
  rintro e w1 ⟨a, rfl, hb⟩
  have HB := Lib.hid (show Below w.heap.size w w1 from hb)
  have hz1 := hb.size
  (try simp at hz1)
  clear hb
  cases hq : (jPow a).2
  · skip
    have HG : Hid (jPow a = (fz, false)) := jPow_no hq
    go_wp2_with (first | ((with_reducible refine wpList_load_mid ?kl121 26 ?kl12x ?kl122 (w1.heap.size) 0 ?kl123 [.int .i64 a.x.re, .int .i64 a.x.im, .int .i64 a.x.den, .int .i64 a.y.re, .int .i64 a.y.im, .int .i64 a.y.den] ?kl12d ?kl124 ?kl125 ?kl126 ?kl127 ?kl128); (case kl122 => rfl); (case kl121 => rfl); (case kl123 => rfl); (case kl124 => (exact (rangeAt_new _ _ _))); (case kl125 => exact Try.underlying26); (case kl126 => rfl); (case kl127 => kernel_rfl)))
    refine (ijpow a _).mono ?_
    rintro e w2 ho
    rw [HG.out] at ho
    obtain ⟨rfl, hb⟩ : e = .returned (.tuple #[.agg #[.int .i64 fz.re, .int .i64 fz.im, .int .i64 fz.den], .bool false]) ∧ Below _ _ _ := ho.fn
    clear ho
    have HB := Lib.hid (show Below w.heap.size w w2 from HB.out.trans ((show Below _ _ _ from ((Below.refl _ _).alloc (by omega) _)).trans (hb.mono (by first | omega | (simp <;> omega)))))
    have Ha : Hid (w2.rangeAt w1.heap.size 0 [.int .i64 a.x.re, .int .i64 a.x.im, .int .i64 a.x.den, .int .i64 a.y.re, .int .i64 a.y.im, .int .i64 a.y.den]) := rangeAt_below (rangeAt_new _ _ _) hb (by first | omega | (simp; done) | (simp <;> omega))
    have hz2 := hb.size
    (try simp at hz2)
    clear hb
    have nA0 : w1.heap.size < w2.heap.size := by omega
    have nB0 : ¬ w1.heap.size = w2.heap.size := by omega
    have nC0 : ¬ w2.heap.size = w1.heap.size := by omega
    go_wp2_with (first | ((with_reducible refine wpList_load_mid ?kl131 26 ?kl13x ?kl132 (w1.heap.size) 0 ?kl133 [.int .i64 a.x.re, .int .i64 a.x.im, .int .i64 a.x.den, .int .i64 a.y.re, .int .i64 a.y.im, .int .i64 a.y.den] ?kl13d ?kl134 ?kl135 ?kl136 ?kl137 ?kl138); (case kl132 => rfl); (case kl131 => rfl); (case kl133 => rfl); (case kl134 => (exact (World.rangeAt_alloc Ha.out _))); (case kl135 => exact Try.underlying26); (case kl136 => rfl); (case kl137 => kernel_rfl)))
    refine (sjpow_any a _).mono ?_
    rintro e w3 ho
    rw [HG.out] at ho
    obtain ⟨rfl, hb⟩ : e = .returned (.tuple #[.agg #[.int .i64 fz.re, .int .i64 fz.im, .int .i64 fz.den], .bool false]) ∧ Below _ _ _ := ho.fn
    clear ho
    have HB := Lib.hid (show Below w.heap.size w w3 from HB.out.trans ((show Below _ _ _ from ((Below.refl _ _).alloc (by omega) _)).trans (hb.mono (by first | omega | (simp <;> omega)))))
    have Ha : Hid (w3.rangeAt (w1.heap.size) 0 [.int .i64 a.x.re, .int .i64 a.x.im, .int .i64 a.x.den, .int .i64 a.y.re, .int .i64 a.y.im, .int .i64 a.y.den]) := rangeAt_below (World.rangeAt_alloc Ha.out _) hb (by first | omega | (simp; done) | (simp <;> omega))
    have Ho : Hid (w3.rangeAt w2.heap.size 0 [.int .i64 fz.re, .int .i64 fz.im, .int .i64 fz.den]) := rangeAt_below (rangeAt_new _ _ _) hb (by first | omega | (simp; done) | (simp <;> omega))
    have hz3 := hb.size
    (try simp at hz3)
    clear hb
    have nA0 : w1.heap.size < w3.heap.size := by omega
    have nB0 : ¬ w1.heap.size = w3.heap.size := by omega
    have nC0 : ¬ w3.heap.size = w1.heap.size := by omega
    have nA1 : w2.heap.size < w3.heap.size := by omega
    have nB1 : ¬ w2.heap.size = w3.heap.size := by omega
    have nC1 : ¬ w3.heap.size = w2.heap.size := by omega
    have zo_0 : w3.cell? ⟨w2.heap.size, 0, none⟩ = some (.int .i64 fz.re) := by have := Ho.out 0 _ rfl; rwa [Nat.zero_add] at this
    have zo_1 : w3.cell? ⟨w2.heap.size, 1, none⟩ = some (.int .i64 fz.im) := by have := Ho.out 1 _ rfl; rwa [Nat.zero_add] at this
    have zo_2 : w3.cell? ⟨w2.heap.size, 2, none⟩ = some (.int .i64 fz.den) := by have := Ho.out 2 _ rfl; rwa [Nat.zero_add] at this
    go_wp2_with fail
    go_ret
    exact ⟨rfl, (by (repeat' first | (with_reducible exact HB.out) | with_reducible refine setCells_below _ _ _ ?_ (by first | omega | (simp <;> omega)) | with_reducible refine Below.setCell ?_ (by show _ ≤ _; first | omega | (simp <;> omega) | simp) _ | with_reducible refine Below.alloc ?_ (by first | omega | (simp <;> omega)) _ | with_reducible apply Below.drew))⟩
  · skip
    obtain ⟨s, hs⟩ : ∃ s, s = (jPow a).1 := ⟨_, rfl⟩
    have HG : Hid (jPow a = (s, true)) := by show _ = _; rw [hs, ← hq]
    obtain ⟨h3, h0, h4⟩ := pow_law HG.out
    have HI := Lib.hid h3
    have h2 : (s.im == 0) = true := by simpa using h4
    clear hs hq h3 h4
    go_wp2_with (first | ((with_reducible refine wpList_load_mid ?kl141 26 ?kl14x ?kl142 (w1.heap.size) 0 ?kl143 [.int .i64 a.x.re, .int .i64 a.x.im, .int .i64 a.x.den, .int .i64 a.y.re, .int .i64 a.y.im, .int .i64 a.y.den] ?kl14d ?kl144 ?kl145 ?kl146 ?kl147 ?kl148); (case kl142 => rfl); (case kl141 => rfl); (case kl143 => rfl); (case kl144 => (exact (rangeAt_new _ _ _))); (case kl145 => exact Try.underlying26); (case kl146 => rfl); (case kl147 => kernel_rfl)))
    refine (ijpow a _).mono ?_
    rintro e w2 ho
    rw [HG.out] at ho
    obtain ⟨rfl, hb⟩ : e = .returned (.tuple #[.agg #[.int .i64 s.re, .int .i64 s.im, .int .i64 s.den], .bool true]) ∧ Below _ _ _ := ho.fn
    clear ho
    have HB := Lib.hid (show Below w.heap.size w w2 from HB.out.trans ((show Below _ _ _ from ((Below.refl _ _).alloc (by omega) _)).trans (hb.mono (by first | omega | (simp <;> omega)))))
    have Ha : Hid (w2.rangeAt w1.heap.size 0 [.int .i64 a.x.re, .int .i64 a.x.im, .int .i64 a.x.den, .int .i64 a.y.re, .int .i64 a.y.im, .int .i64 a.y.den]) := rangeAt_below (rangeAt_new _ _ _) hb (by first | omega | (simp; done) | (simp <;> omega))
    have hz2 := hb.size
    (try simp at hz2)
    clear hb
    have nA0 : w1.heap.size < w2.heap.size := by omega
    have nB0 : ¬ w1.heap.size = w2.heap.size := by omega
    have nC0 : ¬ w2.heap.size = w1.heap.size := by omega
    go_wp2_with (first | ((with_reducible refine wpList_load_mid ?kl151 26 ?kl15x ?kl152 (w1.heap.size) 0 ?kl153 [.int .i64 a.x.re, .int .i64 a.x.im, .int .i64 a.x.den, .int .i64 a.y.re, .int .i64 a.y.im, .int .i64 a.y.den] ?kl15d ?kl154 ?kl155 ?kl156 ?kl157 ?kl158); (case kl152 => rfl); (case kl151 => rfl); (case kl153 => rfl); (case kl154 => (exact (World.rangeAt_alloc Ha.out _))); (case kl155 => exact Try.underlying26); (case kl156 => rfl); (case kl157 => kernel_rfl)))
    refine (sjpow_any a _).mono ?_
    rintro e w3 ho
    rw [HG.out] at ho
    obtain ⟨rfl, hb⟩ : e = .returned (.tuple #[.agg #[.int .i64 s.re, .int .i64 s.im, .int .i64 s.den], .bool true]) ∧ Below _ _ _ := ho.fn
    clear ho
    have HB := Lib.hid (show Below w.heap.size w w3 from HB.out.trans ((show Below _ _ _ from ((Below.refl _ _).alloc (by omega) _)).trans (hb.mono (by first | omega | (simp <;> omega)))))
    have Ha : Hid (w3.rangeAt (w1.heap.size) 0 [.int .i64 a.x.re, .int .i64 a.x.im, .int .i64 a.x.den, .int .i64 a.y.re, .int .i64 a.y.im, .int .i64 a.y.den]) := rangeAt_below (World.rangeAt_alloc Ha.out _) hb (by first | omega | (simp; done) | (simp <;> omega))
    have Ho : Hid (w3.rangeAt w2.heap.size 0 [.int .i64 s.re, .int .i64 s.im, .int .i64 s.den]) := rangeAt_below (rangeAt_new _ _ _) hb (by first | omega | (simp; done) | (simp <;> omega))
    have hz3 := hb.size
    (try simp at hz3)
    clear hb
    have nA0 : w1.heap.size < w3.heap.size := by omega
    have nB0 : ¬ w1.heap.size = w3.heap.size := by omega
    have nC0 : ¬ w3.heap.size = w1.heap.size := by omega
    have nA1 : w2.heap.size < w3.heap.size := by omega
    have nB1 : ¬ w2.heap.size = w3.heap.size := by omega
    have nC1 : ¬ w3.heap.size = w2.heap.size := by omega
    have zo_0 : w3.cell? ⟨w2.heap.size, 0, none⟩ = some (.int .i64 s.re) := by have := Ho.out 0 _ rfl; rwa [Nat.zero_add] at this
    have zo_1 : w3.cell? ⟨w2.heap.size, 1, none⟩ = some (.int .i64 s.im) := by have := Ho.out 1 _ rfl; rwa [Nat.zero_add] at this
    have zo_2 : w3.cell? ⟨w2.heap.size, 2, none⟩ = some (.int .i64 s.den) := by have := Ho.out 2 _ rfl; rwa [Nat.zero_add] at this
    go_wp2_with (first | ((with_reducible refine wpList_load_mid ?kl161 26 ?kl16x ?kl162 (w1.heap.size) 0 ?kl163 [.int .i64 a.x.re, .int .i64 a.x.im, .int .i64 a.x.den, .int .i64 a.y.re, .int .i64 a.y.im, .int .i64 a.y.den] ?kl16d ?kl164 ?kl165 ?kl166 ?kl167 ?kl168); (case kl162 => rfl); (case kl161 => rfl); (case kl163 => rfl); (case kl164 => (exact (World.rangeAt_alloc Ha.out _))); (case kl165 => exact Try.underlying26); (case kl166 => rfl); (case kl167 => kernel_rfl)) | ((with_reducible refine wpList_load_mid ?kl171 26 ?kl17x ?kl172 (w1.heap.size) 0 ?kl173 [.int .i64 a.x.re, .int .i64 a.x.im, .int .i64 a.x.den, .int .i64 a.y.re, .int .i64 a.y.im, .int .i64 a.y.den] ?kl17d ?kl174 ?kl175 ?kl176 ?kl177 ?kl178); (case kl172 => rfl); (case kl171 => rfl); (case kl173 => rfl); (case kl174 => (exact (World.rangeAt_alloc Ha.out _))); (case kl175 => exact Try.underlying26); (case kl176 => rfl); (case kl177 => kernel_rfl)))
    refine (ijin a a _).mono ?_
    rintro e w4 ho
    rw [HI.out] at ho
    obtain ⟨rfl, hb⟩ : e = .returned (.tuple #[.agg #[.int .i64 s.re, .int .i64 s.im, .int .i64 s.den], .bool true]) ∧ Below _ _ _ := ho.fn
    clear ho
    have HB := Lib.hid (show Below w.heap.size w w4 from HB.out.trans ((show Below _ _ _ from ((Below.refl _ _).alloc (by omega) _)).trans (hb.mono (by first | omega | (simp <;> omega)))))
    have Ha : Hid (w4.rangeAt (w1.heap.size) 0 [.int .i64 a.x.re, .int .i64 a.x.im, .int .i64 a.x.den, .int .i64 a.y.re, .int .i64 a.y.im, .int .i64 a.y.den]) := rangeAt_below (World.rangeAt_alloc Ha.out _) hb (by first | omega | (simp; done) | (simp <;> omega))
    have Ho : Hid (w4.rangeAt (w2.heap.size) 0 [.int .i64 s.re, .int .i64 s.im, .int .i64 s.den]) := rangeAt_below (World.rangeAt_alloc Ho.out _) hb (by first | omega | (simp; done) | (simp <;> omega))
    have Hq : Hid (w4.rangeAt w3.heap.size 0 [.int .i64 s.re, .int .i64 s.im, .int .i64 s.den]) := rangeAt_below (rangeAt_new _ _ _) hb (by first | omega | (simp; done) | (simp <;> omega))
    have hz4 := hb.size
    (try simp at hz4)
    clear hb
    have nA0 : w1.heap.size < w4.heap.size := by omega
    have nB0 : ¬ w1.heap.size = w4.heap.size := by omega
    have nC0 : ¬ w4.heap.size = w1.heap.size := by omega
    have nA1 : w2.heap.size < w4.heap.size := by omega
    have nB1 : ¬ w2.heap.size = w4.heap.size := by omega
    have nC1 : ¬ w4.heap.size = w2.heap.size := by omega
    have nA2 : w3.heap.size < w4.heap.size := by omega
    have nB2 : ¬ w3.heap.size = w4.heap.size := by omega
    have nC2 : ¬ w4.heap.size = w3.heap.size := by omega
    have zo_0 : w4.cell? ⟨w2.heap.size, 0, none⟩ = some (.int .i64 s.re) := by have := Ho.out 0 _ rfl; rwa [Nat.zero_add] at this
    have zo_1 : w4.cell? ⟨w2.heap.size, 1, none⟩ = some (.int .i64 s.im) := by have := Ho.out 1 _ rfl; rwa [Nat.zero_add] at this
    have zo_2 : w4.cell? ⟨w2.heap.size, 2, none⟩ = some (.int .i64 s.den) := by have := Ho.out 2 _ rfl; rwa [Nat.zero_add] at this
    go_wp2_with fail
    go_ret
    exact ⟨rfl, (by (repeat' first | (with_reducible exact HB.out) | with_reducible refine setCells_below _ _ _ ?_ (by first | omega | (simp <;> omega)) | with_reducible refine Below.setCell ?_ (by show _ ≤ _; first | omega | (simp <;> omega) | simp) _ | with_reducible refine Below.alloc ?_ (by first | omega | (simp <;> omega)) _ | with_reducible apply Below.drew))⟩

set_option maxRecDepth 100000 in
theorem lifted_FnJonesPower (os : Os) (started : os.Started) (H : Type) (enc : TypeId × Value → H) :
    ReturnsInHanded {} Try.checked os 6 .any (Rows.fnJonesPowerSpec.pre6 enc Try.prog Try.f6 Rows.fnJonesPowerRow.domain false) (Rows.fnJonesPowerSpec.post enc Try.prog Try.f6 false true false false) := by
  refine returnsInHanded_of_change (C := Try.checked) Try.own started (by kernel_rfl) Try.func6
    (ChangeSpec.witness6 (enc := enc) (C := Try.checked) false ⟨#[], #[.slice none 0 0], []⟩ 8 (by kernel_rfl) (by kernel_rfl) (by kernel_rfl) (by kernel_rfl)) ?_
  intro W base args ds gs before hval0 hW hcnd _
  have hval : ∀ (j : Nat) t v, Try.f6.params[j]? = some t → args[j]? = some v → Value.okWide Try.prog W .any base t v := hval0
  have hW' := hW
  obtain ⟨p, q, hA0, hV, rfl, hfz, hnd⟩ := hW
  have hA : DataW.TrodAll enc Try.prog W 0 (fun _ => true) true Try.f6.params.toList args.toList ds p := hA0
  rw [Try.params6] at hA hval
  obtain ⟨v0, d0, rfl, rfl, h0⟩ := trodAll_one hA
  obtain ⟨rfl, rfl⟩ := trodVars_none hV
  have h0k := h0
  obtain ⟨fuel, hf⟩ := h0
  clear hA0 hval0
  simp only [List.append_nil] at hW'
  have hlt : ∀ x ∈ p, x.block < W.heap.size := fun x hx => by simpa using hW'.lt x hx
  obtain ⟨a0, len, cap, rfl⟩ := okWide_slice Try.underlying22 (hval 0 22 v0 rfl rfl)
  obtain ⟨hcap, HC⟩ := open_code hf hlt
  refine (walk_FnJonesPower a0 len cap W hcap HC).mono fun e W' ⟨he, hb⟩ => ?_
  subst he
  refine ⟨_, rfl, _, _, _, [], p, [], hW', trodAll_mk1 (shut_bool Try.underlying4 _), trodAll_mk1 (Below.trod Try.laidOut (by kernel_rfl) (of_decide_eq_true (by kernel_rfl)) h0k hb (fun x hx => hlt x (by simp [hx]))), rfl, hb.frame _, fun h => by cases h⟩

/-- THE STATEMENT. -/
theorem holds_FnJonesPower : Rows.FnJonesPowerSaid :=
  OpenClaim.holds_of_wide 6 Try.f6 rfl rfl rfl rfl rfl rfl rfl ⟨rfl, rfl, rfl, rfl, rfl⟩ rfl rfl rfl rfl rfl (by kernel_rfl) Try.func6 (by kernel_rfl)
    (of_decide_eq_true (by kernel_rfl)) (by unfold Func.isWrapper; first | (rw [if_pos (by decide +kernel)]; kernel_rfl) | (rw [if_neg (by decide +kernel)]; exact ⟨rfl, rfl⟩))
    (fun os started H enc _ => lifted_FnJonesPower os started H enc)
end Go.Proofs.Ytlmpbijhidnekaa
