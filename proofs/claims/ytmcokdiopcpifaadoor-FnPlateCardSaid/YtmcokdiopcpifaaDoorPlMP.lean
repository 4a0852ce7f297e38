/- Contracts: plates, the reference's side. -/
import Derived.Test.YtmcokdiopcpifaaDoorPlNC
import Derived.Test.YtmcokdiopcpifaaDoorPlG17
import Derived.Test.YtmcokdiopcpifaaDoorPlZ
import Derived.Deep.RegionHeld3
import Derived.BigQuiet
set_option maxRecDepth 100000
namespace Go.Proofs.YtmcokdiopcpifaaDoor
open Go.RowKit Pol
def phF (k : Int) : Fr := if k = 0 then ⟨1, 0, 1⟩ else if k = 1 then ⟨0, 1, 1⟩ else if k = 2 then ⟨-1, 0, 1⟩ else ⟨0, -1, 1⟩
def dgM (f : Fr) : M4 := ⟨⟨1, 0, 1⟩, ⟨0, 0, 1⟩, ⟨0, 0, 1⟩, f⟩
/-- A plate. -/
def gPla (p q k : Int) : M4 × Bool := if (dirB p q && wi k 0 3) = true then (if ((mTm (gRot p q).1 (dgM (phF k))).2 && (mTm (mTm (gRot p q).1 (dgM (phF k))).1 (gAdj (gRot p q).1).1).2) = true then ((mTm (mTm (gRot p q).1 (dgM (phF k))).1 (gAdj (gRot p q).1).1).1, true) else (m4z, false)) else (m4z, false)
theorem gPla_1 {p q k : Int} (h : dirB p q = false) : gPla p q k = (m4z, false) := by unfold gPla; rw [h]; rfl
theorem gPla_2 {p q k : Int} (h : wi k 0 3 = false) : gPla p q k = (m4z, false) := by unfold gPla; rw [h, Bool.and_false]; rfl
theorem gPla_3 {p q k : Int} {r B A C : M4} {b u v : Bool} (h : dirB p q = true) (hk : wi k 0 3 = true) (hr : gRot p q = (r, true)) (hb : gAdj r = (B, b)) (ha : mTm r (dgM (phF k)) = (A, u)) (hc : mTm A B = (C, v)) : gPla p q k = if (u && v) = true then (C, true) else (m4z, false) := by
  unfold gPla; rw [h, hk, hr]; simp only [hb, ha, hc, Bool.and_self, if_true]
theorem rot_y {p q : Int} (h : dirB p q = true) : ∃ r, gRot p q = (r, true) := ⟨_, by unfold gRot; rw [if_pos h]⟩
theorem rot_n {p q : Int} (h : dirB p q = false) : gRot p q = (m4z, false) := by unfold gRot; rw [if_neg (by rw [h]; simp)]
theorem wi4 {k : Int} (h : wi k 0 3 = true) : k = 0 ∨ k = 1 ∨ k = 2 ∨ k = 3 := by unfold wi at h; simp at h; omega
set_option maxRecDepth 100000 in
set_option maxHeartbeats 8000000 in
theorem phase_any (k : Int) (hk : wi k 0 3 = true) (w : World) : Calls Tryd.prog 109 #[.int .i64 k] w fun e w' => e = .returned (.agg #[.int .i64 (phF k).re, .int .i64 (phF k).im, .int .i64 (phF k).den]) ∧ Below w.heap.size w w' := by
  rcases wi4 hk with rfl | rfl | rfl | rfl
  · go_enter Tryd.func109, Tryd.ntmps109
    go_wp2
    refine bodyPost_ret (v := .agg #[.int .i64 1, .int .i64 0, .int .i64 1]) (by simp [results, Tryd.results109, go_sem]) rfl ⟨rfl, ?_⟩
    (repeat' first | exact Below.refl _ _ | apply bl_alloc | apply bl_drewN | apply bl_drew | refine bl_trans ?_ (by assumption) | refine bl_set ?_ (by first | omega | (simp <;> omega)) _)
  · go_enter Tryd.func109, Tryd.ntmps109
    go_wp2
    refine bodyPost_ret (v := .agg #[.int .i64 0, .int .i64 1, .int .i64 1]) (by simp [results, Tryd.results109, go_sem]) rfl ⟨rfl, ?_⟩
    (repeat' first | exact Below.refl _ _ | apply bl_alloc | apply bl_drewN | apply bl_drew | refine bl_trans ?_ (by assumption) | refine bl_set ?_ (by first | omega | (simp <;> omega)) _)
  · go_enter Tryd.func109, Tryd.ntmps109
    go_wp2
    refine bodyPost_ret (v := .agg #[.int .i64 (-1), .int .i64 0, .int .i64 1]) (by simp [results, Tryd.results109, go_sem]) rfl ⟨rfl, ?_⟩
    (repeat' first | exact Below.refl _ _ | apply bl_alloc | apply bl_drewN | apply bl_drew | refine bl_trans ?_ (by assumption) | refine bl_set ?_ (by first | omega | (simp <;> omega)) _)
  · go_enter Tryd.func109, Tryd.ntmps109
    go_wp2
    refine bodyPost_ret (v := .agg #[.int .i64 0, .int .i64 (-1), .int .i64 1]) (by simp [results, Tryd.results109, go_sem]) rfl ⟨rfl, ?_⟩
    (repeat' first | exact Below.refl _ _ | apply bl_alloc | apply bl_drewN | apply bl_drew | refine bl_trans ?_ (by assumption) | refine bl_set ?_ (by first | omega | (simp <;> omega)) _)
set_option maxRecDepth 100000 in
set_option maxHeartbeats 16000000 in
theorem spla_any (p : Int) (q : Int) (k : Int) (w : World) :
    Calls Tryd.prog 51 #[.int .i64 p, .int .i64 q, .int .i64 k] w (M4Out (gPla p q k) w) := by
  cases hd : dirB p q
  · skip
    have HG := Lib.hid (gPla_1 (k := k) hd)
    have HR0 := Lib.hid (rot_n hd)
    clear hd
    have HB : Hid (Below w.heap.size w w) := Below.refl _ _
    go_enter Tryd.func51, Tryd.ntmps51
    go_wp2_with fail
    refine (srot_any p q _).mono ?_
    rintro e w1 ho
    rw [HR0.out] at ho
    obtain ⟨rfl, hb⟩ : e = .returned (.tuple #[.agg #[.int .i64 m4z.a.re, .int .i64 m4z.a.im, .int .i64 m4z.a.den, .int .i64 m4z.b.re, .int .i64 m4z.b.im, .int .i64 m4z.b.den, .int .i64 m4z.c.re, .int .i64 m4z.c.im, .int .i64 m4z.c.den, .int .i64 m4z.d.re, .int .i64 m4z.d.im, .int .i64 m4z.d.den], .bool false]) ∧ Below _ _ _ := ho.fn
    clear ho
    have HB := Lib.hid (show Below w.heap.size w w1 from HB.out.trans ((show Below _ _ _ from ((Below.refl _ _).alloc (by first | omega | (simp; done) | (simp <;> omega)) _)).trans (hb.mono (by first | omega | (simp <;> omega)))))
    have HR := Lib.hid ((show Room _ (w.heap.size) 4 from (Room.new' rfl rfl)).below hb (by first | omega | (simp <;> omega)))
    have hz1 := hb.size
    (try simp at hz1)
    clear hb
    have nA0 : w.heap.size < w1.heap.size := by omega
    have nB0 : ¬ w.heap.size = w1.heap.size := by omega
    have nC0 : ¬ w1.heap.size = w.heap.size := by omega
    have hth := (show Room (w1.alloc (.cells #[.int .i64 m4z.a.re, .int .i64 m4z.a.im, .int .i64 m4z.a.den, .int .i64 m4z.b.re, .int .i64 m4z.b.im, .int .i64 m4z.b.den, .int .i64 m4z.c.re, .int .i64 m4z.c.im, .int .i64 m4z.c.den, .int .i64 m4z.d.re, .int .i64 m4z.d.im, .int .i64 m4z.d.den] 41)) (w.heap.size) 4 from (HR.out.alloc (by first | omega | (simp; done) | (simp <;> omega)) _)).there
    go_wp2_with (first | ((with_reducible refine wpList_store_mid ?kl11 41 ?kl1x ?kl1y ?kl12 (w.heap.size) 0 #[.int .i64 0, .int .i64 0, .int .i64 0, .int .i64 0, .int .i64 0, .int .i64 0, .int .i64 0, .int .i64 0, .int .i64 0, .int .i64 0, .int .i64 0, .int .i64 0] ?kl13 ?kl14 ?kl15 ?kl16 ?kl17 ?kl18); (case kl12 => rfl); (case kl11 => rfl); (case kl13 => rfl); (case kl14 => rfl); (case kl15 => exact hth); (case kl16 => kernel_rfl); (case kl17 => exact (by simp [Value.oneCell']))))
    refine bodyPost_ret (v := .tuple #[.agg #[.int .i64 0, .int .i64 0, .int .i64 0, .int .i64 0, .int .i64 0, .int .i64 0, .int .i64 0, .int .i64 0, .int .i64 0, .int .i64 0, .int .i64 0, .int .i64 0], .bool false]) ?_ rfl (M4Out.no HG.out ?_)
    · exact Eq.trans (results_cell_mid2 Tryd.results51 _ _ (w.heap.size) [.int .i64 0, .int .i64 0, .int .i64 0, .int .i64 0, .int .i64 0, .int .i64 0, .int .i64 0, .int .i64 0, .int .i64 0, .int .i64 0, .int .i64 0, .int .i64 0] _ (by rfl) (World.rangeAt_setCells_same _ (w.heap.size) 0 [.int .i64 0, .int .i64 0, .int .i64 0, .int .i64 0, .int .i64 0, .int .i64 0, .int .i64 0, .int .i64 0, .int .i64 0, .int .i64 0, .int .i64 0, .int .i64 0] hth) Tryd.underlying41 rfl (by kernel_rfl)) rfl
    · (repeat' first | (with_reducible exact HB.out) | with_reducible refine setCells_below _ _ _ ?_ (by first | omega | (simp <;> omega)) | with_reducible refine Below.setCell ?_ (by show _ ≤ _; first | omega | (simp <;> omega) | simp) _ | with_reducible refine Below.alloc ?_ (by first | omega | (simp <;> omega)) _ | with_reducible apply Below.drew | with_reducible refine below_drewN ?_ _)
  · skip
    obtain ⟨r, hr⟩ := rot_y hd
    cases hk : wi k 0 3
    · skip
      have HG := Lib.hid (gPla_2 (p := p) (q := q) hk)
      have HR0 := Lib.hid hr
      have HK := Lib.hid hk
      clear hd hr hk
      have HB : Hid (Below w.heap.size w w) := Below.refl _ _
      go_enter Tryd.func51, Tryd.ntmps51
      go_wp2_with fail
      refine (srot_any p q _).mono ?_
      rintro e w1 ho
      rw [HR0.out] at ho
      obtain ⟨rfl, hb⟩ : e = .returned (.tuple #[.agg #[.int .i64 r.a.re, .int .i64 r.a.im, .int .i64 r.a.den, .int .i64 r.b.re, .int .i64 r.b.im, .int .i64 r.b.den, .int .i64 r.c.re, .int .i64 r.c.im, .int .i64 r.c.den, .int .i64 r.d.re, .int .i64 r.d.im, .int .i64 r.d.den], .bool true]) ∧ Below _ _ _ := ho.fn
      clear ho
      have HB := Lib.hid (show Below w.heap.size w w1 from HB.out.trans ((show Below _ _ _ from ((Below.refl _ _).alloc (by first | omega | (simp; done) | (simp <;> omega)) _)).trans (hb.mono (by first | omega | (simp <;> omega)))))
      have HR := Lib.hid ((show Room _ (w.heap.size) 4 from (Room.new' rfl rfl)).below hb (by first | omega | (simp <;> omega)))
      have hz1 := hb.size
      (try simp at hz1)
      clear hb
      have nA0 : w.heap.size < w1.heap.size := by omega
      have nB0 : ¬ w.heap.size = w1.heap.size := by omega
      have nC0 : ¬ w1.heap.size = w.heap.size := by omega
      have hth := (show Room (w1.alloc (.cells #[.int .i64 r.a.re, .int .i64 r.a.im, .int .i64 r.a.den, .int .i64 r.b.re, .int .i64 r.b.im, .int .i64 r.b.den, .int .i64 r.c.re, .int .i64 r.c.im, .int .i64 r.c.den, .int .i64 r.d.re, .int .i64 r.d.im, .int .i64 r.d.den] 41)) (w.heap.size) 4 from (HR.out.alloc (by first | omega | (simp; done) | (simp <;> omega)) _)).there
      go_wp2_with (first | (go_at_call 61; (with_reducible refine (l6In_b HK.out _).mono ?_); rintro e w' ⟨rfl, rfl⟩) | ((with_reducible refine wpList_store_mid ?kl21 41 ?kl2x ?kl2y ?kl22 (w.heap.size) 0 #[.int .i64 0, .int .i64 0, .int .i64 0, .int .i64 0, .int .i64 0, .int .i64 0, .int .i64 0, .int .i64 0, .int .i64 0, .int .i64 0, .int .i64 0, .int .i64 0] ?kl23 ?kl24 ?kl25 ?kl26 ?kl27 ?kl28); (case kl22 => rfl); (case kl21 => rfl); (case kl23 => rfl); (case kl24 => rfl); (case kl25 => exact hth); (case kl26 => kernel_rfl); (case kl27 => exact (by simp [Value.oneCell']))))
      refine bodyPost_ret (v := .tuple #[.agg #[.int .i64 0, .int .i64 0, .int .i64 0, .int .i64 0, .int .i64 0, .int .i64 0, .int .i64 0, .int .i64 0, .int .i64 0, .int .i64 0, .int .i64 0, .int .i64 0], .bool false]) ?_ rfl (M4Out.no HG.out ?_)
      · exact Eq.trans (results_cell_mid2 Tryd.results51 _ _ (w.heap.size) [.int .i64 0, .int .i64 0, .int .i64 0, .int .i64 0, .int .i64 0, .int .i64 0, .int .i64 0, .int .i64 0, .int .i64 0, .int .i64 0, .int .i64 0, .int .i64 0] _ (by rfl) (World.rangeAt_setCells_same _ (w.heap.size) 0 [.int .i64 0, .int .i64 0, .int .i64 0, .int .i64 0, .int .i64 0, .int .i64 0, .int .i64 0, .int .i64 0, .int .i64 0, .int .i64 0, .int .i64 0, .int .i64 0] hth) Tryd.underlying41 rfl (by kernel_rfl)) rfl
      · (repeat' first | (with_reducible exact HB.out) | with_reducible refine setCells_below _ _ _ ?_ (by first | omega | (simp <;> omega)) | with_reducible refine Below.setCell ?_ (by show _ ≤ _; first | omega | (simp <;> omega) | simp) _ | with_reducible refine Below.alloc ?_ (by first | omega | (simp <;> omega)) _ | with_reducible apply Below.drew | with_reducible refine below_drewN ?_ _)
    · skip
      obtain ⟨B, b, hB⟩ : ∃ B b, gAdj r = (B, b) := ⟨_, _, rfl⟩
      obtain ⟨A, u, hA⟩ : ∃ A u, mTm r (dgM (phF k)) = (A, u) := ⟨_, _, rfl⟩
      obtain ⟨C, v, hC⟩ : ∃ C v, mTm A B = (C, v) := ⟨_, _, rfl⟩
      have hg := gPla_3 hd hk hr hB hA hC
      have HR0 := Lib.hid hr
      have HK := Lib.hid hk
      have HB0 := Lib.hid hB
      have HA0 := Lib.hid hA
      have HC0 := Lib.hid hC
      have hk4 := wi4 hk
      clear hd hr hk hB hA hC
      have HGg := Lib.hid hg
      clear hg
      have HB : Hid (Below w.heap.size w w) := Below.refl _ _
      go_enter Tryd.func51, Tryd.ntmps51
      go_wp2_with fail
      refine (srot_any p q _).mono ?_
      rintro e w1 ho
      rw [HR0.out] at ho
      obtain ⟨rfl, hb⟩ : e = .returned (.tuple #[.agg #[.int .i64 r.a.re, .int .i64 r.a.im, .int .i64 r.a.den, .int .i64 r.b.re, .int .i64 r.b.im, .int .i64 r.b.den, .int .i64 r.c.re, .int .i64 r.c.im, .int .i64 r.c.den, .int .i64 r.d.re, .int .i64 r.d.im, .int .i64 r.d.den], .bool true]) ∧ Below _ _ _ := ho.fn
      clear ho
      have HB := Lib.hid (show Below w.heap.size w w1 from HB.out.trans ((show Below _ _ _ from ((Below.refl _ _).alloc (by first | omega | (simp; done) | (simp <;> omega)) _)).trans (hb.mono (by first | omega | (simp <;> omega)))))
      have HR := Lib.hid ((show Room _ (w.heap.size) 4 from (Room.new' rfl rfl)).below hb (by first | omega | (simp <;> omega)))
      have hz1 := hb.size
      (try simp at hz1)
      clear hb
      have nA0 : w.heap.size < w1.heap.size := by omega
      have nB0 : ¬ w.heap.size = w1.heap.size := by omega
      have nC0 : ¬ w1.heap.size = w.heap.size := by omega
      go_wp2_with (first | (first | ((with_reducible refine wpList_load_mid ?kl31 41 ?kl3x ?kl32 (w1.heap.size) 0 ?kl33 [.int .i64 r.a.re, .int .i64 r.a.im, .int .i64 r.a.den, .int .i64 r.b.re, .int .i64 r.b.im, .int .i64 r.b.den, .int .i64 r.c.re, .int .i64 r.c.im, .int .i64 r.c.den, .int .i64 r.d.re, .int .i64 r.d.im, .int .i64 r.d.den] ?kl3d ?kl34 ?kl35 ?kl36 ?kl37 ?kl38); (case kl32 => rfl); (case kl31 => rfl); (case kl33 => rfl); (case kl34 => (exact (rangeAt_new _ _ _))); (case kl35 => exact Tryd.underlying41); (case kl36 => rfl); (case kl37 => kernel_rfl))) | (go_at_call 61; (with_reducible refine (l6In_b HK.out _).mono ?_); rintro e w' ⟨rfl, rfl⟩))
      refine (smatadj_any r _).mono ?_
      rintro e w2 ho
      rw [HB0.out] at ho
      obtain ⟨rfl, hb⟩ : e = .returned (.tuple #[.agg #[.int .i64 B.a.re, .int .i64 B.a.im, .int .i64 B.a.den, .int .i64 B.b.re, .int .i64 B.b.im, .int .i64 B.b.den, .int .i64 B.c.re, .int .i64 B.c.im, .int .i64 B.c.den, .int .i64 B.d.re, .int .i64 B.d.im, .int .i64 B.d.den], .bool b]) ∧ Below _ _ _ := ho.fn
      clear ho
      have HB := Lib.hid (show Below w.heap.size w w2 from HB.out.trans ((show Below _ _ _ from ((Below.refl _ _).alloc (by first | omega | (simp; done) | (simp <;> omega)) _)).trans (hb.mono (by first | omega | (simp <;> omega)))))
      have HR := Lib.hid ((show Room _ (w.heap.size) 4 from (HR.out.alloc (by first | omega | (simp; done) | (simp <;> omega)) _)).below hb (by first | omega | (simp <;> omega)))
      have Hr : Hid (w2.rangeAt (w1.heap.size) 0 [.int .i64 r.a.re, .int .i64 r.a.im, .int .i64 r.a.den, .int .i64 r.b.re, .int .i64 r.b.im, .int .i64 r.b.den, .int .i64 r.c.re, .int .i64 r.c.im, .int .i64 r.c.den, .int .i64 r.d.re, .int .i64 r.d.im, .int .i64 r.d.den]) := rangeAt_below (rangeAt_new _ _ _) hb (by first | omega | (simp; done) | (simp <;> omega))
      have hz2 := hb.size
      (try simp at hz2)
      clear hb
      have nA1 : w1.heap.size < w2.heap.size := by omega
      have nB1 : ¬ w1.heap.size = w2.heap.size := by omega
      have nC1 : ¬ w2.heap.size = w1.heap.size := by omega
      have nA0 : w.heap.size < w2.heap.size := by omega
      have nB0 : ¬ w.heap.size = w2.heap.size := by omega
      have nC0 : ¬ w2.heap.size = w.heap.size := by omega
      have KH : Hid (BX w (w.heap.size) 4 [(w1.heap.size, [.int .i64 r.a.re, .int .i64 r.a.im, .int .i64 r.a.den, .int .i64 r.b.re, .int .i64 r.b.im, .int .i64 r.b.den, .int .i64 r.c.re, .int .i64 r.c.im, .int .i64 r.c.den, .int .i64 r.d.re, .int .i64 r.d.im, .int .i64 r.d.den]), (w2.heap.size, [.int .i64 B.a.re, .int .i64 B.a.im, .int .i64 B.a.den, .int .i64 B.b.re, .int .i64 B.b.im, .int .i64 B.b.den, .int .i64 B.c.re, .int .i64 B.c.im, .int .i64 B.c.den, .int .i64 B.d.re, .int .i64 B.d.im, .int .i64 B.d.den])] (w2.alloc (.cells #[.int .i64 B.a.re, .int .i64 B.a.im, .int .i64 B.a.den, .int .i64 B.b.re, .int .i64 B.b.im, .int .i64 B.b.den, .int .i64 B.c.re, .int .i64 B.c.im, .int .i64 B.c.den, .int .i64 B.d.re, .int .i64 B.d.im, .int .i64 B.d.den] 41))) := by
        show BX _ _ _ _ _
        refine ⟨(Below.alloc HB.out (by first | omega | (simp; done) | (simp <;> omega)) _), Or.inl (by first | omega | (simp <;> omega)), (HR.out.alloc (by first | omega | (simp; done) | (simp <;> omega)) _), ?_⟩
        intro e he
        simp only [List.mem_cons, List.not_mem_nil, or_false] at he
        rcases he with rfl | rfl
        · exact ⟨by first | (show w1.heap.size < _; omega) | (show w1.heap.size < _; simp; done) | (show w1.heap.size < _; simp <;> omega), (World.rangeAt_alloc Hr.out _)⟩
        · exact ⟨by first | (show w2.heap.size < _; omega) | (show w2.heap.size < _; simp; done) | (show w2.heap.size < _; simp <;> omega), (rangeAt_new _ _ _)⟩
      have hsz1 : w2.heap.size + 1 ≤ w2.heap.size + 1 := Nat.le_refl _
      go_upto_region 5 with fail
      go_cut [12, 13] (fun s12 s13 wx => ∃ D : Nat, s12 = .pointer (some ⟨D, 0, none⟩) ∧ s13 = .bool u ∧ w2.heap.size ≤ D ∧ BX w (w.heap.size) 4 ((D, [.int .i64 A.a.re, .int .i64 A.a.im, .int .i64 A.a.den, .int .i64 A.b.re, .int .i64 A.b.im, .int .i64 A.b.den, .int .i64 A.c.re, .int .i64 A.c.im, .int .i64 A.c.den, .int .i64 A.d.re, .int .i64 A.d.im, .int .i64 A.d.den]) :: [(w1.heap.size, [.int .i64 r.a.re, .int .i64 r.a.im, .int .i64 r.a.den, .int .i64 r.b.re, .int .i64 r.b.im, .int .i64 r.b.den, .int .i64 r.c.re, .int .i64 r.c.im, .int .i64 r.c.den, .int .i64 r.d.re, .int .i64 r.d.im, .int .i64 r.d.den]), (w2.heap.size, [.int .i64 B.a.re, .int .i64 B.a.im, .int .i64 B.a.den, .int .i64 B.b.re, .int .i64 B.b.im, .int .i64 B.b.den, .int .i64 B.c.re, .int .i64 B.c.im, .int .i64 B.c.den, .int .i64 B.d.re, .int .i64 B.d.im, .int .i64 B.d.den])]) wx)
      case first =>
        have f0_r := Lib.hid (show World.rangeAt _ _ _ _ from (KH.out.drew.box (w1.heap.size, [.int .i64 r.a.re, .int .i64 r.a.im, .int .i64 r.a.den, .int .i64 r.b.re, .int .i64 r.b.im, .int .i64 r.b.den, .int .i64 r.c.re, .int .i64 r.c.im, .int .i64 r.c.den, .int .i64 r.d.re, .int .i64 r.d.im, .int .i64 r.d.den]) (by simp)).2)
        have h0_r := Lib.hid (fun z => show World.rangeAt _ _ _ _ from ((KH.out.alloc z).drew.box (w1.heap.size, [.int .i64 r.a.re, .int .i64 r.a.im, .int .i64 r.a.den, .int .i64 r.b.re, .int .i64 r.b.im, .int .i64 r.b.den, .int .i64 r.c.re, .int .i64 r.c.im, .int .i64 r.c.den, .int .i64 r.d.re, .int .i64 r.d.im, .int .i64 r.d.den]) (by simp)).2)
        go_region_held3 (fun w' => (w'.cell? ⟨w1.heap.size, 0, none⟩ = some (.int .i64 r.a.re) ∧ w'.cell? ⟨w1.heap.size, 1, none⟩ = some (.int .i64 r.a.im) ∧ w'.cell? ⟨w1.heap.size, 2, none⟩ = some (.int .i64 r.a.den) ∧ w'.cell? ⟨w1.heap.size, 3, none⟩ = some (.int .i64 r.b.re) ∧ w'.cell? ⟨w1.heap.size, 4, none⟩ = some (.int .i64 r.b.im) ∧ w'.cell? ⟨w1.heap.size, 5, none⟩ = some (.int .i64 r.b.den) ∧ w'.cell? ⟨w1.heap.size, 6, none⟩ = some (.int .i64 r.c.re) ∧ w'.cell? ⟨w1.heap.size, 7, none⟩ = some (.int .i64 r.c.im) ∧ w'.cell? ⟨w1.heap.size, 8, none⟩ = some (.int .i64 r.c.den) ∧ w'.cell? ⟨w1.heap.size, 9, none⟩ = some (.int .i64 r.d.re) ∧ w'.cell? ⟨w1.heap.size, 10, none⟩ = some (.int .i64 r.d.im) ∧ w'.cell? ⟨w1.heap.size, 11, none⟩ = some (.int .i64 r.d.den))) (((try dsimp only); (first | (with_reducible exact cellsM (f0_r.out)) | (with_reducible exact cellsM (h0_r.out _)) | (with_reducible exact cellsM (f1_r.out)) | (with_reducible exact cellsM (World.rangeAt_alloc f1_r.out _)) | (with_reducible exact cellsM (f2_r.out)) | (with_reducible exact cellsM (World.rangeAt_alloc f2_r.out _)) | (with_reducible exact cellsM (f3_r.out)) | (with_reducible exact cellsM (World.rangeAt_alloc f3_r.out _)) | (with_reducible exact cellsM (f4_r.out)) | (with_reducible exact cellsM (World.rangeAt_alloc f4_r.out _)) | (with_reducible exact cellsM (KS_r.out _ (by omega) (by omega) _ _ _ _ _ _ _ _ _ _ _ _))))) (first | ((have hneed := K3.out; clear hneed); go_at_call 107; (with_reducible refine (smtm_any r (dgM (phF k)) _).mono ?_); rintro e wr1_4 ho; rw [HA0.out] at ho; obtain ⟨rfl, hb⟩ : e = .returned (.tuple #[.agg #[.int .i64 A.a.re, .int .i64 A.a.im, .int .i64 A.a.den, .int .i64 A.b.re, .int .i64 A.b.im, .int .i64 A.b.den, .int .i64 A.c.re, .int .i64 A.c.im, .int .i64 A.c.den, .int .i64 A.d.re, .int .i64 A.d.im, .int .i64 A.d.den], .bool u]) ∧ Below _ _ _ := ho.fn; have K4 := Lib.hid (show BX w _ _ [(w1.heap.size, [.int .i64 r.a.re, .int .i64 r.a.im, .int .i64 r.a.den, .int .i64 r.b.re, .int .i64 r.b.im, .int .i64 r.b.den, .int .i64 r.c.re, .int .i64 r.c.im, .int .i64 r.c.den, .int .i64 r.d.re, .int .i64 r.d.im, .int .i64 r.d.den]), (w2.heap.size, [.int .i64 B.a.re, .int .i64 B.a.im, .int .i64 B.a.den, .int .i64 B.b.re, .int .i64 B.b.im, .int .i64 B.b.den, .int .i64 B.c.re, .int .i64 B.c.im, .int .i64 B.c.den, .int .i64 B.d.re, .int .i64 B.d.im, .int .i64 B.d.den])] wr1_4 from by first | (with_reducible exact K3.out.next hb) | (with_reducible exact (K3.out.alloc _).next hb)); have f4_r := Lib.hid (show World.rangeAt _ _ _ _ from (K4.out.box (w1.heap.size, [.int .i64 r.a.re, .int .i64 r.a.im, .int .i64 r.a.den, .int .i64 r.b.re, .int .i64 r.b.im, .int .i64 r.b.den, .int .i64 r.c.re, .int .i64 r.c.im, .int .i64 r.c.den, .int .i64 r.d.re, .int .i64 r.d.im, .int .i64 r.d.den]) (by simp)).2); have hzr4 := hb.size; (try simp at hzr4); obtain ⟨BB, hBB, hb⟩ : ∃ B, B = _ ∧ Below B _ _ := ⟨_, rfl, hb⟩; (try simp at hBB); (first | (rcases Nat.lt_or_ge (w2.heap.size + 1) BB with hlt | hlt; rotate_left; (exfalso; omega); have yc := fun q => hb.cell (p := ⟨w2.heap.size + 1, q, none⟩) hlt; have yf := fun q => hb.frozen (p := ⟨w2.heap.size + 1, q, none⟩) hlt; (first | (have RD := Lib.hid (RD.out.below hb hlt)) | (have RD : Hid (Room wr1_4 (w2.heap.size + 1) 4) := (by show Room _ _ _; refine Room.below ?_ hb hlt; first | (with_reducible refine Room.new' ?_ rfl; simp; done) | (with_reducible refine Room.drewF (Room.new' ?_ rfl); simp; done))) | skip); clear hlt) | skip); (first | (rcases Nat.lt_or_ge (wr1_1.heap.size) BB with hlt | hlt; rotate_left; (exfalso; omega); have yc := fun q => hb.cell (p := ⟨wr1_1.heap.size, q, none⟩) hlt; have yf := fun q => hb.frozen (p := ⟨wr1_1.heap.size, q, none⟩) hlt; (first | (have RD := Lib.hid (RD.out.below hb hlt)) | (have RD : Hid (Room wr1_4 (wr1_1.heap.size) 4) := (by show Room _ _ _; refine Room.below ?_ hb hlt; first | (with_reducible refine Room.new' ?_ rfl; simp; done) | (with_reducible refine Room.drewF (Room.new' ?_ rfl); simp; done))) | skip); clear hlt) | skip); (first | (rcases Nat.lt_or_ge (wr1_2.heap.size) BB with hlt | hlt; rotate_left; (exfalso; omega); have yc := fun q => hb.cell (p := ⟨wr1_2.heap.size, q, none⟩) hlt; have yf := fun q => hb.frozen (p := ⟨wr1_2.heap.size, q, none⟩) hlt; (first | (have RD := Lib.hid (RD.out.below hb hlt)) | (have RD : Hid (Room wr1_4 (wr1_2.heap.size) 4) := (by show Room _ _ _; refine Room.below ?_ hb hlt; first | (with_reducible refine Room.new' ?_ rfl; simp; done) | (with_reducible refine Room.drewF (Room.new' ?_ rfl); simp; done))) | skip); clear hlt) | skip); (first | (rcases Nat.lt_or_ge (wr1_3.heap.size) BB with hlt | hlt; rotate_left; (exfalso; omega); have yc := fun q => hb.cell (p := ⟨wr1_3.heap.size, q, none⟩) hlt; have yf := fun q => hb.frozen (p := ⟨wr1_3.heap.size, q, none⟩) hlt; (first | (have RD := Lib.hid (RD.out.below hb hlt)) | (have RD : Hid (Room wr1_4 (wr1_3.heap.size) 4) := (by show Room _ _ _; refine Room.below ?_ hb hlt; first | (with_reducible refine Room.new' ?_ rfl; simp; done) | (with_reducible refine Room.drewF (Room.new' ?_ rfl); simp; done))) | skip); clear hlt) | skip); clear hBB; have KS := Lib.hid (fun (D : Nat) h2 h4 (v0 : Value) (v1 : Value) (v2 : Value) (v3 : Value) (v4 : Value) (v5 : Value) (v6 : Value) (v7 : Value) (v8 : Value) (v9 : Value) (v10 : Value) (v11 : Value) => K4.out.store (D := D) h2 h4 [v0, v1, v2, v3, v4, v5, v6, v7, v8, v9, v10, v11]); have KS := Lib.hid (by have hh := KS.out; simp only [World.setCells, Nat.zero_add, Nat.reduceAdd] at hh; exact hh); have KS_r := Lib.hid (fun (D : Nat) (h2 : w1.heap.size ≠ D) (h4 : w.heap.size ≤ D) (v0 : Value) (v1 : Value) (v2 : Value) (v3 : Value) (v4 : Value) (v5 : Value) (v6 : Value) (v7 : Value) (v8 : Value) (v9 : Value) (v10 : Value) (v11 : Value) => World.rangeAt_setCells_apart (show World.rangeAt wr1_4 (w1.heap.size) 0 [.int .i64 r.a.re, .int .i64 r.a.im, .int .i64 r.a.den, .int .i64 r.b.re, .int .i64 r.b.im, .int .i64 r.b.den, .int .i64 r.c.re, .int .i64 r.c.im, .int .i64 r.c.den, .int .i64 r.d.re, .int .i64 r.d.im, .int .i64 r.d.den] from f4_r.out) D 0 [v0, v1, v2, v3, v4, v5, v6, v7, v8, v9, v10, v11] (Or.inl h2)); have KS_r := Lib.hid (by have hh := KS_r.out; simp only [World.setCells, Nat.zero_add, Nat.reduceAdd] at hh; exact hh); clear ho hb) | ((have hneed := K2.out; clear hneed); go_at_call 108; (with_reducible refine (l5One_any ⟨1, 0, 1⟩ (phF k) _).mono ?_); rintro e wr1_3 ho; obtain ⟨rfl, hb⟩ : e = .returned (.agg #[.int .i64 (dgM (phF k)).a.re, .int .i64 (dgM (phF k)).a.im, .int .i64 (dgM (phF k)).a.den, .int .i64 (dgM (phF k)).b.re, .int .i64 (dgM (phF k)).b.im, .int .i64 (dgM (phF k)).b.den, .int .i64 (dgM (phF k)).c.re, .int .i64 (dgM (phF k)).c.im, .int .i64 (dgM (phF k)).c.den, .int .i64 (dgM (phF k)).d.re, .int .i64 (dgM (phF k)).d.im, .int .i64 (dgM (phF k)).d.den]) ∧ Below _ _ _ := (id ho); have K3 := Lib.hid (show BX w _ _ [(w1.heap.size, [.int .i64 r.a.re, .int .i64 r.a.im, .int .i64 r.a.den, .int .i64 r.b.re, .int .i64 r.b.im, .int .i64 r.b.den, .int .i64 r.c.re, .int .i64 r.c.im, .int .i64 r.c.den, .int .i64 r.d.re, .int .i64 r.d.im, .int .i64 r.d.den]), (w2.heap.size, [.int .i64 B.a.re, .int .i64 B.a.im, .int .i64 B.a.den, .int .i64 B.b.re, .int .i64 B.b.im, .int .i64 B.b.den, .int .i64 B.c.re, .int .i64 B.c.im, .int .i64 B.c.den, .int .i64 B.d.re, .int .i64 B.d.im, .int .i64 B.d.den])] wr1_3 from by first | (with_reducible exact K2.out.next hb) | (with_reducible exact (K2.out.alloc _).next hb)); have f3_r := Lib.hid (show World.rangeAt _ _ _ _ from (K3.out.box (w1.heap.size, [.int .i64 r.a.re, .int .i64 r.a.im, .int .i64 r.a.den, .int .i64 r.b.re, .int .i64 r.b.im, .int .i64 r.b.den, .int .i64 r.c.re, .int .i64 r.c.im, .int .i64 r.c.den, .int .i64 r.d.re, .int .i64 r.d.im, .int .i64 r.d.den]) (by simp)).2); have hzr3 := hb.size; (try simp at hzr3); obtain ⟨BB, hBB, hb⟩ : ∃ B, B = _ ∧ Below B _ _ := ⟨_, rfl, hb⟩; (try simp at hBB); (first | (rcases Nat.lt_or_ge (w2.heap.size + 1) BB with hlt | hlt; rotate_left; (exfalso; omega); have yc := fun q => hb.cell (p := ⟨w2.heap.size + 1, q, none⟩) hlt; have yf := fun q => hb.frozen (p := ⟨w2.heap.size + 1, q, none⟩) hlt; (first | (have RD := Lib.hid (RD.out.below hb hlt)) | (have RD : Hid (Room wr1_3 (w2.heap.size + 1) 4) := (by show Room _ _ _; refine Room.below ?_ hb hlt; first | (with_reducible refine Room.new' ?_ rfl; simp; done) | (with_reducible refine Room.drewF (Room.new' ?_ rfl); simp; done))) | skip); clear hlt) | skip); (first | (rcases Nat.lt_or_ge (wr1_1.heap.size) BB with hlt | hlt; rotate_left; (exfalso; omega); have yc := fun q => hb.cell (p := ⟨wr1_1.heap.size, q, none⟩) hlt; have yf := fun q => hb.frozen (p := ⟨wr1_1.heap.size, q, none⟩) hlt; (first | (have RD := Lib.hid (RD.out.below hb hlt)) | (have RD : Hid (Room wr1_3 (wr1_1.heap.size) 4) := (by show Room _ _ _; refine Room.below ?_ hb hlt; first | (with_reducible refine Room.new' ?_ rfl; simp; done) | (with_reducible refine Room.drewF (Room.new' ?_ rfl); simp; done))) | skip); clear hlt) | skip); (first | (rcases Nat.lt_or_ge (wr1_2.heap.size) BB with hlt | hlt; rotate_left; (exfalso; omega); have yc := fun q => hb.cell (p := ⟨wr1_2.heap.size, q, none⟩) hlt; have yf := fun q => hb.frozen (p := ⟨wr1_2.heap.size, q, none⟩) hlt; (first | (have RD := Lib.hid (RD.out.below hb hlt)) | (have RD : Hid (Room wr1_3 (wr1_2.heap.size) 4) := (by show Room _ _ _; refine Room.below ?_ hb hlt; first | (with_reducible refine Room.new' ?_ rfl; simp; done) | (with_reducible refine Room.drewF (Room.new' ?_ rfl); simp; done))) | skip); clear hlt) | skip); clear hBB; clear ho hb) | ((have hneed := K1.out; clear hneed); go_at_call 109; (with_reducible refine (phase_any k HK.out _).mono ?_); rintro e wr1_2 ho; obtain ⟨rfl, hb⟩ : e = .returned (.agg #[.int .i64 (phF k).re, .int .i64 (phF k).im, .int .i64 (phF k).den]) ∧ Below _ _ _ := (id ho); have K2 := Lib.hid (show BX w _ _ [(w1.heap.size, [.int .i64 r.a.re, .int .i64 r.a.im, .int .i64 r.a.den, .int .i64 r.b.re, .int .i64 r.b.im, .int .i64 r.b.den, .int .i64 r.c.re, .int .i64 r.c.im, .int .i64 r.c.den, .int .i64 r.d.re, .int .i64 r.d.im, .int .i64 r.d.den]), (w2.heap.size, [.int .i64 B.a.re, .int .i64 B.a.im, .int .i64 B.a.den, .int .i64 B.b.re, .int .i64 B.b.im, .int .i64 B.b.den, .int .i64 B.c.re, .int .i64 B.c.im, .int .i64 B.c.den, .int .i64 B.d.re, .int .i64 B.d.im, .int .i64 B.d.den])] wr1_2 from by first | (with_reducible exact K1.out.next hb) | (with_reducible exact (K1.out.alloc _).next hb)); have f2_r := Lib.hid (show World.rangeAt _ _ _ _ from (K2.out.box (w1.heap.size, [.int .i64 r.a.re, .int .i64 r.a.im, .int .i64 r.a.den, .int .i64 r.b.re, .int .i64 r.b.im, .int .i64 r.b.den, .int .i64 r.c.re, .int .i64 r.c.im, .int .i64 r.c.den, .int .i64 r.d.re, .int .i64 r.d.im, .int .i64 r.d.den]) (by simp)).2); have hzr2 := hb.size; (try simp at hzr2); obtain ⟨BB, hBB, hb⟩ : ∃ B, B = _ ∧ Below B _ _ := ⟨_, rfl, hb⟩; (try simp at hBB); (first | (rcases Nat.lt_or_ge (w2.heap.size + 1) BB with hlt | hlt; rotate_left; (exfalso; omega); have yc := fun q => hb.cell (p := ⟨w2.heap.size + 1, q, none⟩) hlt; have yf := fun q => hb.frozen (p := ⟨w2.heap.size + 1, q, none⟩) hlt; (first | (have RD := Lib.hid (RD.out.below hb hlt)) | (have RD : Hid (Room wr1_2 (w2.heap.size + 1) 4) := (by show Room _ _ _; refine Room.below ?_ hb hlt; first | (with_reducible refine Room.new' ?_ rfl; simp; done) | (with_reducible refine Room.drewF (Room.new' ?_ rfl); simp; done))) | skip); clear hlt) | skip); (first | (rcases Nat.lt_or_ge (wr1_1.heap.size) BB with hlt | hlt; rotate_left; (exfalso; omega); have yc := fun q => hb.cell (p := ⟨wr1_1.heap.size, q, none⟩) hlt; have yf := fun q => hb.frozen (p := ⟨wr1_1.heap.size, q, none⟩) hlt; (first | (have RD := Lib.hid (RD.out.below hb hlt)) | (have RD : Hid (Room wr1_2 (wr1_1.heap.size) 4) := (by show Room _ _ _; refine Room.below ?_ hb hlt; first | (with_reducible refine Room.new' ?_ rfl; simp; done) | (with_reducible refine Room.drewF (Room.new' ?_ rfl); simp; done))) | skip); clear hlt) | skip); clear hBB; clear ho hb) | (go_at_call 109; (with_reducible refine (phase_any 0 rfl _).mono ?_); rintro e wr1_1 ho; obtain ⟨rfl, hb⟩ : e = .returned (.agg #[.int .i64 1, .int .i64 0, .int .i64 1]) ∧ Below _ _ _ := (id ho); have K1 := Lib.hid (show BX w _ _ [(w1.heap.size, [.int .i64 r.a.re, .int .i64 r.a.im, .int .i64 r.a.den, .int .i64 r.b.re, .int .i64 r.b.im, .int .i64 r.b.den, .int .i64 r.c.re, .int .i64 r.c.im, .int .i64 r.c.den, .int .i64 r.d.re, .int .i64 r.d.im, .int .i64 r.d.den]), (w2.heap.size, [.int .i64 B.a.re, .int .i64 B.a.im, .int .i64 B.a.den, .int .i64 B.b.re, .int .i64 B.b.im, .int .i64 B.b.den, .int .i64 B.c.re, .int .i64 B.c.im, .int .i64 B.c.den, .int .i64 B.d.re, .int .i64 B.d.im, .int .i64 B.d.den])] wr1_1 from by first | (with_reducible exact KH.out.drew.next hb) | (with_reducible exact (KH.out.alloc _).drew.next hb)); have f1_r := Lib.hid (show World.rangeAt _ _ _ _ from (K1.out.box (w1.heap.size, [.int .i64 r.a.re, .int .i64 r.a.im, .int .i64 r.a.den, .int .i64 r.b.re, .int .i64 r.b.im, .int .i64 r.b.den, .int .i64 r.c.re, .int .i64 r.c.im, .int .i64 r.c.den, .int .i64 r.d.re, .int .i64 r.d.im, .int .i64 r.d.den]) (by simp)).2); have hzr1 := hb.size; (try simp at hzr1); obtain ⟨BB, hBB, hb⟩ : ∃ B, B = _ ∧ Below B _ _ := ⟨_, rfl, hb⟩; (try simp at hBB); (first | (rcases Nat.lt_or_ge (w2.heap.size + 1) BB with hlt | hlt; rotate_left; (exfalso; omega); have yc := fun q => hb.cell (p := ⟨w2.heap.size + 1, q, none⟩) hlt; have yf := fun q => hb.frozen (p := ⟨w2.heap.size + 1, q, none⟩) hlt; (first | (have RD := Lib.hid (RD.out.below hb hlt)) | (have RD : Hid (Room wr1_1 (w2.heap.size + 1) 4) := (by show Room _ _ _; refine Room.below ?_ hb hlt; first | (with_reducible refine Room.new' ?_ rfl; simp; done) | (with_reducible refine Room.drewF (Room.new' ?_ rfl); simp; done))) | skip); clear hlt) | skip); clear hBB; clear ho hb))
        all_goals (go_wp2_with fail; go_meet)
        all_goals (first
            | (refine ⟨w2.heap.size + 1, rfl, rfl, by omega, ?_⟩; have kS := KS.out (w2.heap.size + 1) (by intro e he; simp only [List.mem_cons, List.not_mem_nil, or_false] at he; rcases he with rfl | rfl <;> (show _ ≠ _; omega)) (by omega) (.int .i64 A.a.re) (.int .i64 A.a.im) (.int .i64 A.a.den) (.int .i64 A.b.re) (.int .i64 A.b.im) (.int .i64 A.b.den) (.int .i64 A.c.re) (.int .i64 A.c.im) (.int .i64 A.c.den) (.int .i64 A.d.re) (.int .i64 A.d.im) (.int .i64 A.d.den); have hh := fun W h => World.rangeAt_setCells_same W (w2.heap.size + 1) 0 [.int .i64 A.a.re, .int .i64 A.a.im, .int .i64 A.a.den, .int .i64 A.b.re, .int .i64 A.b.im, .int .i64 A.b.den, .int .i64 A.c.re, .int .i64 A.c.im, .int .i64 A.c.den, .int .i64 A.d.re, .int .i64 A.d.im, .int .i64 A.d.den] h; simp only [World.setCells, Nat.zero_add, Nat.reduceAdd] at hh; have hr := hh _ RD.out.there; have hE := RD.out.ltF (by omega); exact kS.add (by simpa using hE) hr)
            | (refine ⟨wr1_1.heap.size, rfl, rfl, by omega, ?_⟩; have kS := KS.out (wr1_1.heap.size) (by intro e he; simp only [List.mem_cons, List.not_mem_nil, or_false] at he; rcases he with rfl | rfl <;> (show _ ≠ _; omega)) (by omega) (.int .i64 A.a.re) (.int .i64 A.a.im) (.int .i64 A.a.den) (.int .i64 A.b.re) (.int .i64 A.b.im) (.int .i64 A.b.den) (.int .i64 A.c.re) (.int .i64 A.c.im) (.int .i64 A.c.den) (.int .i64 A.d.re) (.int .i64 A.d.im) (.int .i64 A.d.den); have hh := fun W h => World.rangeAt_setCells_same W (wr1_1.heap.size) 0 [.int .i64 A.a.re, .int .i64 A.a.im, .int .i64 A.a.den, .int .i64 A.b.re, .int .i64 A.b.im, .int .i64 A.b.den, .int .i64 A.c.re, .int .i64 A.c.im, .int .i64 A.c.den, .int .i64 A.d.re, .int .i64 A.d.im, .int .i64 A.d.den] h; simp only [World.setCells, Nat.zero_add, Nat.reduceAdd] at hh; have hr := hh _ RD.out.there; have hE := RD.out.ltF (by omega); exact kS.add (by simpa using hE) hr)
            | (refine ⟨wr1_2.heap.size, rfl, rfl, by omega, ?_⟩; have kS := KS.out (wr1_2.heap.size) (by intro e he; simp only [List.mem_cons, List.not_mem_nil, or_false] at he; rcases he with rfl | rfl <;> (show _ ≠ _; omega)) (by omega) (.int .i64 A.a.re) (.int .i64 A.a.im) (.int .i64 A.a.den) (.int .i64 A.b.re) (.int .i64 A.b.im) (.int .i64 A.b.den) (.int .i64 A.c.re) (.int .i64 A.c.im) (.int .i64 A.c.den) (.int .i64 A.d.re) (.int .i64 A.d.im) (.int .i64 A.d.den); have hh := fun W h => World.rangeAt_setCells_same W (wr1_2.heap.size) 0 [.int .i64 A.a.re, .int .i64 A.a.im, .int .i64 A.a.den, .int .i64 A.b.re, .int .i64 A.b.im, .int .i64 A.b.den, .int .i64 A.c.re, .int .i64 A.c.im, .int .i64 A.c.den, .int .i64 A.d.re, .int .i64 A.d.im, .int .i64 A.d.den] h; simp only [World.setCells, Nat.zero_add, Nat.reduceAdd] at hh; have hr := hh _ RD.out.there; have hE := RD.out.ltF (by omega); exact kS.add (by simpa using hE) hr)
            | (refine ⟨wr1_3.heap.size, rfl, rfl, by omega, ?_⟩; have kS := KS.out (wr1_3.heap.size) (by intro e he; simp only [List.mem_cons, List.not_mem_nil, or_false] at he; rcases he with rfl | rfl <;> (show _ ≠ _; omega)) (by omega) (.int .i64 A.a.re) (.int .i64 A.a.im) (.int .i64 A.a.den) (.int .i64 A.b.re) (.int .i64 A.b.im) (.int .i64 A.b.den) (.int .i64 A.c.re) (.int .i64 A.c.im) (.int .i64 A.c.den) (.int .i64 A.d.re) (.int .i64 A.d.im) (.int .i64 A.d.den); have hh := fun W h => World.rangeAt_setCells_same W (wr1_3.heap.size) 0 [.int .i64 A.a.re, .int .i64 A.a.im, .int .i64 A.a.den, .int .i64 A.b.re, .int .i64 A.b.im, .int .i64 A.b.den, .int .i64 A.c.re, .int .i64 A.c.im, .int .i64 A.c.den, .int .i64 A.d.re, .int .i64 A.d.im, .int .i64 A.d.den] h; simp only [World.setCells, Nat.zero_add, Nat.reduceAdd] at hh; have hr := hh _ RD.out.there; have hE := RD.out.ltF (by omega); exact kS.add (by simpa using hE) hr)
            | (refine ⟨wr1_4.heap.size, rfl, rfl, by omega, ?_⟩; have kS := K4.out.alloc (.cells #[.int .i64 A.a.re, .int .i64 A.a.im, .int .i64 A.a.den, .int .i64 A.b.re, .int .i64 A.b.im, .int .i64 A.b.den, .int .i64 A.c.re, .int .i64 A.c.im, .int .i64 A.c.den, .int .i64 A.d.re, .int .i64 A.d.im, .int .i64 A.d.den] 41); exact kS.add (by simp) (rangeAt_new _ _ _)))
      case rest =>
      obtain ⟨D1, rfl, rfl, hlo1, KC⟩ := hcut
      obtain ⟨wq1, hwq⟩ : ∃ x, x = wc := ⟨_, rfl⟩
      rw [← hwq] at KC
      rw [← hwq]
      clear hwq
      obtain ⟨hl_aa, hr_aa⟩ := KC.box (D1, [.int .i64 A.a.re, .int .i64 A.a.im, .int .i64 A.a.den, .int .i64 A.b.re, .int .i64 A.b.im, .int .i64 A.b.den, .int .i64 A.c.re, .int .i64 A.c.im, .int .i64 A.c.den, .int .i64 A.d.re, .int .i64 A.d.im, .int .i64 A.d.den]) (by simp)
      have Haa := Lib.hid hr_aa
      clear hr_aa
      obtain ⟨hl_r, hr_r⟩ := KC.box (w1.heap.size, [.int .i64 r.a.re, .int .i64 r.a.im, .int .i64 r.a.den, .int .i64 r.b.re, .int .i64 r.b.im, .int .i64 r.b.den, .int .i64 r.c.re, .int .i64 r.c.im, .int .i64 r.c.den, .int .i64 r.d.re, .int .i64 r.d.im, .int .i64 r.d.den]) (by simp)
      have Hr := Lib.hid hr_r
      clear hr_r
      obtain ⟨hl_bb, hr_bb⟩ := KC.box (w2.heap.size, [.int .i64 B.a.re, .int .i64 B.a.im, .int .i64 B.a.den, .int .i64 B.b.re, .int .i64 B.b.im, .int .i64 B.b.den, .int .i64 B.c.re, .int .i64 B.c.im, .int .i64 B.c.den, .int .i64 B.d.re, .int .i64 B.d.im, .int .i64 B.d.den]) (by simp)
      have Hbb := Lib.hid hr_bb
      clear hr_bb
      have HB := Lib.hid KC.below
      have HR := Lib.hid KC.room
      have hRl : w.heap.size < wq1.heap.size := by rcases KC.hR with h | h <;> omega
      clear KC KH
      have nA2 : D1 < wq1.heap.size := by first | assumption | omega
      have nB2 : ¬ D1 = wq1.heap.size := by omega
      have nC2 : ¬ wq1.heap.size = D1 := by omega
      have nA1 : w1.heap.size < wq1.heap.size := by first | assumption | omega
      have nB1 : ¬ w1.heap.size = wq1.heap.size := by omega
      have nC1 : ¬ wq1.heap.size = w1.heap.size := by omega
      have nA3 : w2.heap.size < wq1.heap.size := by first | assumption | omega
      have nB3 : ¬ w2.heap.size = wq1.heap.size := by omega
      have nC3 : ¬ wq1.heap.size = w2.heap.size := by omega
      have nA0 : w.heap.size < wq1.heap.size := by first | assumption | omega
      have nB0 : ¬ w.heap.size = wq1.heap.size := by omega
      have nC0 : ¬ wq1.heap.size = w.heap.size := by omega
      go_wp2_with (first | ((with_reducible refine wpList_load_mid ?kl41 41 ?kl4x ?kl42 (D1) 0 ?kl43 [.int .i64 A.a.re, .int .i64 A.a.im, .int .i64 A.a.den, .int .i64 A.b.re, .int .i64 A.b.im, .int .i64 A.b.den, .int .i64 A.c.re, .int .i64 A.c.im, .int .i64 A.c.den, .int .i64 A.d.re, .int .i64 A.d.im, .int .i64 A.d.den] ?kl4d ?kl44 ?kl45 ?kl46 ?kl47 ?kl48); (case kl42 => rfl); (case kl41 => rfl); (case kl43 => rfl); (case kl44 => (exact Haa.out)); (case kl45 => exact Tryd.underlying41); (case kl46 => rfl); (case kl47 => kernel_rfl)) | ((with_reducible refine wpList_load_mid ?kl51 41 ?kl5x ?kl52 (w2.heap.size) 0 ?kl53 [.int .i64 B.a.re, .int .i64 B.a.im, .int .i64 B.a.den, .int .i64 B.b.re, .int .i64 B.b.im, .int .i64 B.b.den, .int .i64 B.c.re, .int .i64 B.c.im, .int .i64 B.c.den, .int .i64 B.d.re, .int .i64 B.d.im, .int .i64 B.d.den] ?kl5d ?kl54 ?kl55 ?kl56 ?kl57 ?kl58); (case kl52 => rfl); (case kl51 => rfl); (case kl53 => rfl); (case kl54 => (exact Hbb.out)); (case kl55 => exact Tryd.underlying41); (case kl56 => rfl); (case kl57 => kernel_rfl)))
      refine (smtm_any A B _).mono ?_
      rintro e w4 ho
      rw [HC0.out] at ho
      obtain ⟨rfl, hb⟩ : e = .returned (.tuple #[.agg #[.int .i64 C.a.re, .int .i64 C.a.im, .int .i64 C.a.den, .int .i64 C.b.re, .int .i64 C.b.im, .int .i64 C.b.den, .int .i64 C.c.re, .int .i64 C.c.im, .int .i64 C.c.den, .int .i64 C.d.re, .int .i64 C.d.im, .int .i64 C.d.den], .bool v]) ∧ Below _ _ _ := ho.fn
      clear ho
      have HB := Lib.hid (show Below w.heap.size w w4 from HB.out.trans ((show Below _ _ _ from (Below.refl _ _)).trans (hb.mono (by first | omega | (simp <;> omega)))))
      have Haa : Hid (w4.rangeAt (D1) 0 [.int .i64 A.a.re, .int .i64 A.a.im, .int .i64 A.a.den, .int .i64 A.b.re, .int .i64 A.b.im, .int .i64 A.b.den, .int .i64 A.c.re, .int .i64 A.c.im, .int .i64 A.c.den, .int .i64 A.d.re, .int .i64 A.d.im, .int .i64 A.d.den]) := rangeAt_below Haa.out hb (by first | omega | (simp; done) | (simp <;> omega))
      have Hr : Hid (w4.rangeAt (w1.heap.size) 0 [.int .i64 r.a.re, .int .i64 r.a.im, .int .i64 r.a.den, .int .i64 r.b.re, .int .i64 r.b.im, .int .i64 r.b.den, .int .i64 r.c.re, .int .i64 r.c.im, .int .i64 r.c.den, .int .i64 r.d.re, .int .i64 r.d.im, .int .i64 r.d.den]) := rangeAt_below Hr.out hb (by first | omega | (simp; done) | (simp <;> omega))
      have Hbb : Hid (w4.rangeAt (w2.heap.size) 0 [.int .i64 B.a.re, .int .i64 B.a.im, .int .i64 B.a.den, .int .i64 B.b.re, .int .i64 B.b.im, .int .i64 B.b.den, .int .i64 B.c.re, .int .i64 B.c.im, .int .i64 B.c.den, .int .i64 B.d.re, .int .i64 B.d.im, .int .i64 B.d.den]) := rangeAt_below Hbb.out hb (by first | omega | (simp; done) | (simp <;> omega))
      have HR := Lib.hid ((show Room _ (w.heap.size) 4 from HR.out).below hb (by first | omega | (simp <;> omega)))
      have hz4 := hb.size
      (try simp at hz4)
      clear hb
      have nA2 : D1 < w4.heap.size := by omega
      have nB2 : ¬ D1 = w4.heap.size := by omega
      have nC2 : ¬ w4.heap.size = D1 := by omega
      have nA1 : w1.heap.size < w4.heap.size := by omega
      have nB1 : ¬ w1.heap.size = w4.heap.size := by omega
      have nC1 : ¬ w4.heap.size = w1.heap.size := by omega
      have nA3 : w2.heap.size < w4.heap.size := by omega
      have nB3 : ¬ w2.heap.size = w4.heap.size := by omega
      have nC3 : ¬ w4.heap.size = w2.heap.size := by omega
      have nA0 : w.heap.size < w4.heap.size := by omega
      have nB0 : ¬ w.heap.size = w4.heap.size := by omega
      have nC0 : ¬ w4.heap.size = w.heap.size := by omega
      cases u
      · skip
        have HG : Hid (gPla p q k = (m4z, false)) := HGg.out
        clear HGg
        have hth := (show Room (w4.alloc (.cells #[.int .i64 C.a.re, .int .i64 C.a.im, .int .i64 C.a.den, .int .i64 C.b.re, .int .i64 C.b.im, .int .i64 C.b.den, .int .i64 C.c.re, .int .i64 C.c.im, .int .i64 C.c.den, .int .i64 C.d.re, .int .i64 C.d.im, .int .i64 C.d.den] 41)) (w.heap.size) 4 from (HR.out.alloc (by first | omega | (simp; done) | (simp <;> omega)) _)).there
        go_wp2_with (first | ((with_reducible refine wpList_store_mid ?kl61 41 ?kl6x ?kl6y ?kl62 (w.heap.size) 0 #[.int .i64 0, .int .i64 0, .int .i64 0, .int .i64 0, .int .i64 0, .int .i64 0, .int .i64 0, .int .i64 0, .int .i64 0, .int .i64 0, .int .i64 0, .int .i64 0] ?kl63 ?kl64 ?kl65 ?kl66 ?kl67 ?kl68); (case kl62 => rfl); (case kl61 => rfl); (case kl63 => rfl); (case kl64 => rfl); (case kl65 => exact hth); (case kl66 => kernel_rfl); (case kl67 => exact (by simp [Value.oneCell']))))
        refine bodyPost_ret (v := .tuple #[.agg #[.int .i64 0, .int .i64 0, .int .i64 0, .int .i64 0, .int .i64 0, .int .i64 0, .int .i64 0, .int .i64 0, .int .i64 0, .int .i64 0, .int .i64 0, .int .i64 0], .bool false]) ?_ rfl (M4Out.no HG.out ?_)
        · exact Eq.trans (results_cell_mid2 Tryd.results51 _ _ (w.heap.size) [.int .i64 0, .int .i64 0, .int .i64 0, .int .i64 0, .int .i64 0, .int .i64 0, .int .i64 0, .int .i64 0, .int .i64 0, .int .i64 0, .int .i64 0, .int .i64 0] _ (by rfl) (World.rangeAt_setCells_same _ (w.heap.size) 0 [.int .i64 0, .int .i64 0, .int .i64 0, .int .i64 0, .int .i64 0, .int .i64 0, .int .i64 0, .int .i64 0, .int .i64 0, .int .i64 0, .int .i64 0, .int .i64 0] hth) Tryd.underlying41 rfl (by kernel_rfl)) rfl
        · (repeat' first | (with_reducible exact HB.out) | with_reducible refine setCells_below _ _ _ ?_ (by first | omega | (simp <;> omega)) | with_reducible refine Below.setCell ?_ (by show _ ≤ _; first | omega | (simp <;> omega) | simp) _ | with_reducible refine Below.alloc ?_ (by first | omega | (simp <;> omega)) _ | with_reducible apply Below.drew | with_reducible refine below_drewN ?_ _)
      · cases v
        · skip
          have HG : Hid (gPla p q k = (m4z, false)) := HGg.out
          clear HGg
          have hth := (show Room (w4.alloc (.cells #[.int .i64 C.a.re, .int .i64 C.a.im, .int .i64 C.a.den, .int .i64 C.b.re, .int .i64 C.b.im, .int .i64 C.b.den, .int .i64 C.c.re, .int .i64 C.c.im, .int .i64 C.c.den, .int .i64 C.d.re, .int .i64 C.d.im, .int .i64 C.d.den] 41)) (w.heap.size) 4 from (HR.out.alloc (by first | omega | (simp; done) | (simp <;> omega)) _)).there
          go_wp2_with (first | ((with_reducible refine wpList_store_mid ?kl71 41 ?kl7x ?kl7y ?kl72 (w.heap.size) 0 #[.int .i64 0, .int .i64 0, .int .i64 0, .int .i64 0, .int .i64 0, .int .i64 0, .int .i64 0, .int .i64 0, .int .i64 0, .int .i64 0, .int .i64 0, .int .i64 0] ?kl73 ?kl74 ?kl75 ?kl76 ?kl77 ?kl78); (case kl72 => rfl); (case kl71 => rfl); (case kl73 => rfl); (case kl74 => rfl); (case kl75 => exact hth); (case kl76 => kernel_rfl); (case kl77 => exact (by simp [Value.oneCell']))))
          refine bodyPost_ret (v := .tuple #[.agg #[.int .i64 0, .int .i64 0, .int .i64 0, .int .i64 0, .int .i64 0, .int .i64 0, .int .i64 0, .int .i64 0, .int .i64 0, .int .i64 0, .int .i64 0, .int .i64 0], .bool false]) ?_ rfl (M4Out.no HG.out ?_)
          · exact Eq.trans (results_cell_mid2 Tryd.results51 _ _ (w.heap.size) [.int .i64 0, .int .i64 0, .int .i64 0, .int .i64 0, .int .i64 0, .int .i64 0, .int .i64 0, .int .i64 0, .int .i64 0, .int .i64 0, .int .i64 0, .int .i64 0] _ (by rfl) (World.rangeAt_setCells_same _ (w.heap.size) 0 [.int .i64 0, .int .i64 0, .int .i64 0, .int .i64 0, .int .i64 0, .int .i64 0, .int .i64 0, .int .i64 0, .int .i64 0, .int .i64 0, .int .i64 0, .int .i64 0] hth) Tryd.underlying41 rfl (by kernel_rfl)) rfl
          · (repeat' first | (with_reducible exact HB.out) | with_reducible refine setCells_below _ _ _ ?_ (by first | omega | (simp <;> omega)) | with_reducible refine Below.setCell ?_ (by show _ ≤ _; first | omega | (simp <;> omega) | simp) _ | with_reducible refine Below.alloc ?_ (by first | omega | (simp <;> omega)) _ | with_reducible apply Below.drew | with_reducible refine below_drewN ?_ _)
        · skip
          have HG : Hid (gPla p q k = (C, true)) := HGg.out
          clear HGg
          have hth := (show Room (w4.alloc (.cells #[.int .i64 C.a.re, .int .i64 C.a.im, .int .i64 C.a.den, .int .i64 C.b.re, .int .i64 C.b.im, .int .i64 C.b.den, .int .i64 C.c.re, .int .i64 C.c.im, .int .i64 C.c.den, .int .i64 C.d.re, .int .i64 C.d.im, .int .i64 C.d.den] 41)) (w.heap.size) 4 from (HR.out.alloc (by first | omega | (simp; done) | (simp <;> omega)) _)).there
          go_wp2_with (first | (first | ((with_reducible refine wpList_load_mid ?kl81 41 ?kl8x ?kl82 (w4.heap.size) 0 ?kl83 [.int .i64 C.a.re, .int .i64 C.a.im, .int .i64 C.a.den, .int .i64 C.b.re, .int .i64 C.b.im, .int .i64 C.b.den, .int .i64 C.c.re, .int .i64 C.c.im, .int .i64 C.c.den, .int .i64 C.d.re, .int .i64 C.d.im, .int .i64 C.d.den] ?kl8d ?kl84 ?kl85 ?kl86 ?kl87 ?kl88); (case kl82 => rfl); (case kl81 => rfl); (case kl83 => rfl); (case kl84 => (exact (rangeAt_new _ _ _))); (case kl85 => exact Tryd.underlying41); (case kl86 => rfl); (case kl87 => kernel_rfl))) | ((with_reducible refine wpList_store_mid ?kl91 41 ?kl9x ?kl9y ?kl92 (w.heap.size) 0 #[.int .i64 C.a.re, .int .i64 C.a.im, .int .i64 C.a.den, .int .i64 C.b.re, .int .i64 C.b.im, .int .i64 C.b.den, .int .i64 C.c.re, .int .i64 C.c.im, .int .i64 C.c.den, .int .i64 C.d.re, .int .i64 C.d.im, .int .i64 C.d.den] ?kl93 ?kl94 ?kl95 ?kl96 ?kl97 ?kl98); (case kl92 => rfl); (case kl91 => rfl); (case kl93 => rfl); (case kl94 => rfl); (case kl95 => exact hth); (case kl96 => kernel_rfl); (case kl97 => exact (by simp [Value.oneCell']))))
          refine bodyPost_ret (v := .tuple #[.agg #[.int .i64 C.a.re, .int .i64 C.a.im, .int .i64 C.a.den, .int .i64 C.b.re, .int .i64 C.b.im, .int .i64 C.b.den, .int .i64 C.c.re, .int .i64 C.c.im, .int .i64 C.c.den, .int .i64 C.d.re, .int .i64 C.d.im, .int .i64 C.d.den], .bool true]) ?_ rfl (M4Out.yes (f := C) (by rw [HG.out]) (by rw [HG.out]) ?_)
          · exact Eq.trans (results_cell_mid2 Tryd.results51 _ _ (w.heap.size) [.int .i64 C.a.re, .int .i64 C.a.im, .int .i64 C.a.den, .int .i64 C.b.re, .int .i64 C.b.im, .int .i64 C.b.den, .int .i64 C.c.re, .int .i64 C.c.im, .int .i64 C.c.den, .int .i64 C.d.re, .int .i64 C.d.im, .int .i64 C.d.den] _ (by rfl) (World.rangeAt_setCells_same _ (w.heap.size) 0 [.int .i64 C.a.re, .int .i64 C.a.im, .int .i64 C.a.den, .int .i64 C.b.re, .int .i64 C.b.im, .int .i64 C.b.den, .int .i64 C.c.re, .int .i64 C.c.im, .int .i64 C.c.den, .int .i64 C.d.re, .int .i64 C.d.im, .int .i64 C.d.den] hth) Tryd.underlying41 rfl (by kernel_rfl)) rfl
          · (repeat' first | (with_reducible exact HB.out) | with_reducible refine setCells_below _ _ _ ?_ (by first | omega | (simp <;> omega)) | with_reducible refine Below.setCell ?_ (by show _ ≤ _; first | omega | (simp <;> omega) | simp) _ | with_reducible refine Below.alloc ?_ (by first | omega | (simp <;> omega)) _ | with_reducible apply Below.drew | with_reducible refine below_drewN ?_ _)
end Go.Proofs.YtmcokdiopcpifaaDoor
