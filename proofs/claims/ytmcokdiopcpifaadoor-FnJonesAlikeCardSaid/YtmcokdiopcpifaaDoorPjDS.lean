/- Contracts: draws of four numbers. -/
import Derived.Test.YtmcokdiopcpifaaDoorPjDD
import Derived.Test.YtmcokdiopcpifaaDoorPjSF
import Derived.Test.YtmcokdiopcpifaaDoorPjK2
set_option maxRecDepth 100000
namespace Go.Proofs.YtmcokdiopcpifaaDoor
open Go.RowKit Pol
theorem Own.sets {R : Nat} {w : World} (b : Nat) : ∀ (vs : List Value) (o : Nat) {w1 : World}, Own R w w1 → w.heap.size ≤ b → Own R w (w1.setCells b o vs)
  | [], _, _, h, _ => h
  | v :: vs, o, _, h, hb => Own.sets b vs (o + 1) (h.setNew hb v) hb
theorem Rd.puts {N R : Nat} {a0 : Option Addr} {len cap k : Nat} (b : Nat) : ∀ (vs : List Value) (o : Nat) {w : World}, Rd N R a0 len cap k w → R < b → Rd N R a0 len cap k (w.setCells b o vs)
  | [], _, _, h, _ => h
  | v :: vs, o, _, h, hb => Rd.puts b vs (o + 1) (h.put hb v) hb
theorem sadd4_cl (a b : M4) (w : World) : Calls Tryd.prog 127 #[.agg (cl a.get 4).toArray, .agg (cl b.get 4).toArray] w (M4Out (sAdd a b) w) := by
  rw [cl4, cl4]; exact sadd4_any a b w
/-- The loop that draws the four. -/
structure DRel (N R : Nat) (a0 : Option Addr) (len cap kk O : Nat) (w : World) (i : Nat) (wr : World) : Prop where
  le : i ≤ 4
  own : Own R w wr
  rd : Rd N R a0 len cap (kk + 20 * i) wr
  lo : w.heap.size < O
  hi : O < wr.heap.size
  res : Room wr w.heap.size 4
  room : Room wr O 4
  box : ∃ g : Nat → Fr, BoxAt wr O g i
theorem DRel.step {N R : Nat} {a0 : Option Addr} {len cap kk O : Nat} {w wr w1 : World} {i : Nat} (h : DRel N R a0 len cap kk O w i wr) (h4 : i < 4) (hR : R < w.heap.size) (hO : Own R wr w1) (hd : Rd N R a0 len cap (kk + 20 * i + 20) w1) (f : Fr) :
    DRel N R a0 len cap kk O w (i + 1) (putF w1 O i f) := by
  have h1 := h.lo
  have h2 := h.hi
  have h3 := hO.size
  have h5 := h.own.size
  obtain ⟨g, hg⟩ := h.box
  have hg1 := hg.own hO h2 (by omega)
  have hr1 := h.room.own hO h2 (by omega)
  refine ⟨by omega, (((h.own.trans hO).setNew (by omega) _).setNew (by omega) _).setNew (by omega) _, (((hd.mono (by omega)).put (by omega) _).put (by omega) _).put (by omega) _, h1, by rw [putF_size]; omega, (h.res.own hO (by omega) (by omega)).put _ _ _, hr1.put _ _ _, ⟨fun j => if j = i then f else g j, ?_⟩⟩
  have hb : BoxAt w1 O (fun j => if j = i then f else g j) i := fun j hj => by
    show _ ∧ _
    simp only [if_neg (show ¬ j = i by omega)]
    exact hg1 j hj
  have := hb.put hr1 h4
  simpa using this
def DR (N R : Nat) (a0 : Option Addr) (len cap kk O : Nat) (w : World) (v : Value) (wr : World) : Prop := ∃ i : Nat, v = .int .i64 i ∧ DRel N R a0 len cap kk O w i wr
def m4g (g : Nat → Fr) : M4 := ⟨g 0, g 1, g 2, g 3⟩
theorem m4g_get (g : Nat → Fr) {k : Nat} (hk : k < 4) : (m4g g).get k = g k := by
  have : k = 0 ∨ k = 1 ∨ k = 2 ∨ k = 3 := by omega
  rcases this with rfl | rfl | rfl | rfl <;> rfl
set_option maxRecDepth 100000 in
set_option maxHeartbeats 40000000 in
theorem l91Stokes_any {N R : Nat} {a0 : Option Addr} {len cap k : Nat} {w : World} (hk : k ≤ 40000) (h : Rd N R a0 len cap k w) :
    Calls Tryd.prog 100 #[.pointer (some ⟨R, 0, none⟩)] w (RdOut M4P N R a0 len cap (k + 300) w) := by
  have hRl := h.lt
  have h0 := Lib.hid h; clear h
  have HM0 : Hid (Room (w.alloc (.cells #[.int .i64 0, .int .i64 0, .int .i64 0, .int .i64 0, .int .i64 0, .int .i64 0, .int .i64 0, .int .i64 0, .int .i64 0, .int .i64 0, .int .i64 0, .int .i64 0] 51)) w.heap.size 4) := by show Room _ _ _; exact Room.new' rfl rfl
  have HO : Hid (Own R w (w.alloc (.cells #[.int .i64 0, .int .i64 0, .int .i64 0, .int .i64 0, .int .i64 0, .int .i64 0, .int .i64 0, .int .i64 0, .int .i64 0, .int .i64 0, .int .i64 0, .int .i64 0] 51))) := by show Own _ _ _; exact (Own.refl _ _).alloc _
  have HR := Lib.hid (h0.out.alloc (.cells #[.int .i64 0, .int .i64 0, .int .i64 0, .int .i64 0, .int .i64 0, .int .i64 0, .int .i64 0, .int .i64 0, .int .i64 0, .int .i64 0, .int .i64 0, .int .i64 0] 51))
  have hzz : w.heap.size ≤ w.heap.size := Nat.le_refl _
  go_enter Tryd.func100, Tryd.ntmps100
  go_wp2_with fail
  refine (l91Jones_any (by omega) HR.out).mono ?_
  rintro e w1 ⟨v, rfl, ⟨jj, rfl⟩, hO, hR⟩
  have HM0 := Lib.hid (HM0.out.own hO (by first | omega | (simp <;> omega)) (by omega))
  have HO := Lib.hid (HO.out.trans hO)
  have HR := Lib.hid hR
  have hz1 := hO.size
  (try simp at hz1)
  clear hO hR
  have nA0 : w.heap.size < w1.heap.size := by omega
  have nB0 : ¬ w.heap.size = w1.heap.size := by omega
  have nC0 : ¬ w1.heap.size = w.heap.size := by omega
  have nR : R < w1.heap.size := HR.out.lt
  go_wp2_with fail
  refine (spsof_any jj _).mono ?_
  rintro e w2 ho
  obtain ⟨S, o1, hS⟩ : ∃ SS oo, sOf jj = (SS, oo) := ⟨_, _, rfl⟩
  rw [hS] at ho
  clear hS
  obtain ⟨rfl, hb⟩ : e = .returned (.tuple #[.agg #[.int .i64 S.a.re, .int .i64 S.a.im, .int .i64 S.a.den, .int .i64 S.b.re, .int .i64 S.b.im, .int .i64 S.b.den, .int .i64 S.c.re, .int .i64 S.c.im, .int .i64 S.c.den, .int .i64 S.d.re, .int .i64 S.d.im, .int .i64 S.d.den], .bool o1]) ∧ Below _ _ _ := ho.fn
  have HM0 := Lib.hid (HM0.out.below hb (by first | omega | (simp <;> omega)))
  have HO := Lib.hid (HO.out.below hb)
  have HR := Lib.hid (HR.out.next hb)
  have hz2 := hb.size
  (try simp at hz2)
  clear ho hb
  have nA0 : w.heap.size < w2.heap.size := by omega
  have nB0 : ¬ w.heap.size = w2.heap.size := by omega
  have nC0 : ¬ w2.heap.size = w.heap.size := by omega
  have nR : R < w2.heap.size := HR.out.lt
  have HX : Hid (BoxAt (w2.alloc (.cells #[.int .i64 S.a.re, .int .i64 S.a.im, .int .i64 S.a.den, .int .i64 S.b.re, .int .i64 S.b.im, .int .i64 S.b.den, .int .i64 S.c.re, .int .i64 S.c.im, .int .i64 S.c.den, .int .i64 S.d.re, .int .i64 S.d.im, .int .i64 S.d.den] 51)) w2.heap.size (S.get) 4) := by show BoxAt _ _ _ _; exact BoxAt.new _ _ _ _ _ (src4 S)
  have HM0 := Lib.hid (HM0.out.alloc (by omega) (.cells #[.int .i64 S.a.re, .int .i64 S.a.im, .int .i64 S.a.den, .int .i64 S.b.re, .int .i64 S.b.im, .int .i64 S.b.den, .int .i64 S.c.re, .int .i64 S.c.im, .int .i64 S.c.den, .int .i64 S.d.re, .int .i64 S.d.im, .int .i64 S.d.den] 51))
  have HO := Lib.hid (HO.out.alloc (.cells #[.int .i64 S.a.re, .int .i64 S.a.im, .int .i64 S.a.den, .int .i64 S.b.re, .int .i64 S.b.im, .int .i64 S.b.den, .int .i64 S.c.re, .int .i64 S.c.im, .int .i64 S.c.den, .int .i64 S.d.re, .int .i64 S.d.im, .int .i64 S.d.den] 51))
  have HR := Lib.hid (HR.out.alloc (.cells #[.int .i64 S.a.re, .int .i64 S.a.im, .int .i64 S.a.den, .int .i64 S.b.re, .int .i64 S.b.im, .int .i64 S.b.den, .int .i64 S.c.re, .int .i64 S.c.im, .int .i64 S.c.den, .int .i64 S.d.re, .int .i64 S.d.im, .int .i64 S.d.den] 51))
  cases o1
  · skip
    go_wp2
    clear HX
    go_loopw [10] (fun v wr => DR N R a0 len cap (k + 20) (w2.heap.size + 1) w v wr) (fun v _ => (4 - intOf v).toNat)
    case atStart => exact ⟨0, rfl, by omega, HO.out.alloc _, (HR.out.alloc _).mono (by omega), by omega, by simp, HM0.out.alloc (by first | omega | (simp <;> omega)) _, Room.new' (by simp) rfl, fun _ => fz, fun k hk => absurd hk (by omega)⟩
    case round =>
      obtain ⟨i, rfl, hT⟩ := hrel
      clear HO HR HM0
      by_cases h4 : i < 4
      · have j0 : (0 : Int) ≤ (i : Int) := by omega
        have j1 : (i : Int) < 4 := by omega
        have HT := Lib.hid hT
        clear hT
        go_wp2_with fail
        refine (l91Real_any (by omega) HT.out.rd).mono ?_
        rintro e wv ⟨v, rfl, ⟨f, rfl⟩, hO, hR⟩
        have HS := Lib.hid (HT.out.step h4 hRl hO hR f)
        have hlo := HT.out.lo
        have hhi := HT.out.hi
        have hr := HT.out.room.own hO hhi (by omega)
        obtain ⟨v0, e0⟩ := Option.isSome_iff_exists.1 (hr (i * 3) (by omega)).1
        have f0 := (hr (i * 3) (by omega)).2
        obtain ⟨v1, e1⟩ := Option.isSome_iff_exists.1 (hr (i * 3 + 1) (by omega)).1
        have f1 := (hr (i * 3 + 1) (by omega)).2
        obtain ⟨v2, e2⟩ := Option.isSome_iff_exists.1 (hr (i * 3 + 2) (by omega)).1
        have f2 := (hr (i * 3 + 2) (by omega)).2
        clear hr hO hR HT
        go_wp2
        go_roundw
        case rel => exact ⟨i + 1, by go_num, HS.out⟩
        case measure => simp [intOf]; omega
      · obtain rfl : i = 4 := by have := hT.le; omega
        obtain ⟨gg, hg⟩ := hT.box
        have HX : Hid (BoxAt wr ((w2.heap.size + 1)) (m4g gg).get 4) := fun j hj => by rw [m4g_get gg hj]; exact hg j hj
        have HM0 := Lib.hid hT.res
        have HO := Lib.hid hT.own
        have HR := Lib.hid hT.rd
        have hzw := hT.own.size
        clear hT hg
        have HR := Lib.hid (HR.out.mono (show _ ≤ k + 300 by omega))
        go_wp2_with (first | ((with_reducible refine wpList_load_mid ?kt11 51 ?kt1x ?kt12 ((w2.heap.size + 1)) 0 ?kt13 (cl (m4g gg).get 4) ?kt1d ?kt14 ?kt15 ?kt16 ?kt17 ?kt18); (case kt12 => rfl); (case kt11 => rfl); (case kt13 => rfl); (case kt14 => exact (HX.out.range)); (case kt15 => exact Tryd.underlying51); (case kt16 => rfl); (case kt17 => kernel_rfl)) | ((with_reducible refine wpList_store_mid ?kt21 51 ?kt2x ?kt2y ?kt22 (w.heap.size) 0 (cl (m4g gg).get 4).toArray ?kt23 ?kt24 ?kt25 ?kt26 ?kt27 ?kt28); (case kt22 => rfl); (case kt21 => rfl); (case kt23 => rfl); (case kt24 => rfl); (case kt25 => exact (HM0.out.thereC _)); (case kt26 => kernel_rfl); (case kt27 => exact (cl_one _ _))))
        refine bodyPost_ret (v := .agg (cl (m4g gg).get 4).toArray) (results_cell_mid rfl _ _ (w.heap.size) (cl (m4g gg).get 4) _ (by rfl) (World.rangeAt_setCells_same _ _ _ _ (HM0.out.thereC _)) Tryd.underlying51 rfl (by kernel_rfl)) rfl ⟨_, rfl, ⟨(m4g gg), congrArg Value.agg (cl4 (m4g gg))⟩, ?_, ?_⟩
        · exact HO.out.sets _ _ _ (by omega)
        · exact HR.out.puts _ _ _ (by omega)
  · skip
    go_wp2_with fail
    refine (pick_any 3 (by omega) (by omega) (by omega) HR.out).mono ?_
    rintro e w3 ⟨v, rfl, ⟨m, rfl, m0, m1⟩, hO, hR⟩
    have HM0 := Lib.hid (HM0.out.own hO (by first | omega | (simp <;> omega)) (by omega))
    have HX := Lib.hid (HX.out.own hO (by first | omega | (simp <;> omega)) (by omega))
    have HO := Lib.hid (HO.out.trans hO)
    have HR := Lib.hid hR
    have hz3 := hO.size
    (try simp at hz3)
    clear hO hR
    have nA0 : w.heap.size < w3.heap.size := by omega
    have nB0 : ¬ w.heap.size = w3.heap.size := by omega
    have nC0 : ¬ w3.heap.size = w.heap.size := by omega
    have nA1 : w2.heap.size < w3.heap.size := by omega
    have nB1 : ¬ w2.heap.size = w3.heap.size := by omega
    have nC1 : ¬ w3.heap.size = w2.heap.size := by omega
    have nR : R < w3.heap.size := HR.out.lt
    by_cases hm : 0 < m
    · skip
      go_wp2_with fail
      refine (l91Jones_any (by omega) HR.out).mono ?_
      rintro e w4 ⟨v, rfl, ⟨kk, rfl⟩, hO, hR⟩
      have HM0 := Lib.hid (HM0.out.own hO (by first | omega | (simp <;> omega)) (by omega))
      have HX := Lib.hid (HX.out.own hO (by first | omega | (simp <;> omega)) (by omega))
      have HO := Lib.hid (HO.out.trans hO)
      have HR := Lib.hid hR
      have hz4 := hO.size
      (try simp at hz4)
      clear hO hR
      have nA0 : w.heap.size < w4.heap.size := by omega
      have nB0 : ¬ w.heap.size = w4.heap.size := by omega
      have nC0 : ¬ w4.heap.size = w.heap.size := by omega
      have nA1 : w2.heap.size < w4.heap.size := by omega
      have nB1 : ¬ w2.heap.size = w4.heap.size := by omega
      have nC1 : ¬ w4.heap.size = w2.heap.size := by omega
      have nR : R < w4.heap.size := HR.out.lt
      go_wp2_with fail
      refine (spsof_any kk _).mono ?_
      rintro e w5 ho
      obtain ⟨V, o2, hS⟩ : ∃ SS oo, sOf kk = (SS, oo) := ⟨_, _, rfl⟩
      rw [hS] at ho
      clear hS
      obtain ⟨rfl, hb⟩ : e = .returned (.tuple #[.agg #[.int .i64 V.a.re, .int .i64 V.a.im, .int .i64 V.a.den, .int .i64 V.b.re, .int .i64 V.b.im, .int .i64 V.b.den, .int .i64 V.c.re, .int .i64 V.c.im, .int .i64 V.c.den, .int .i64 V.d.re, .int .i64 V.d.im, .int .i64 V.d.den], .bool o2]) ∧ Below _ _ _ := ho.fn
      have HM0 := Lib.hid (HM0.out.below hb (by first | omega | (simp <;> omega)))
      have HX := Lib.hid (HX.out.below hb (by first | omega | (simp <;> omega)))
      have HO := Lib.hid (HO.out.below hb)
      have HR := Lib.hid (HR.out.next hb)
      have hz5 := hb.size
      (try simp at hz5)
      clear ho hb
      have nA0 : w.heap.size < w5.heap.size := by omega
      have nB0 : ¬ w.heap.size = w5.heap.size := by omega
      have nC0 : ¬ w5.heap.size = w.heap.size := by omega
      have nA1 : w2.heap.size < w5.heap.size := by omega
      have nB1 : ¬ w2.heap.size = w5.heap.size := by omega
      have nC1 : ¬ w5.heap.size = w2.heap.size := by omega
      have nR : R < w5.heap.size := HR.out.lt
      have HY : Hid (BoxAt (w5.alloc (.cells #[.int .i64 V.a.re, .int .i64 V.a.im, .int .i64 V.a.den, .int .i64 V.b.re, .int .i64 V.b.im, .int .i64 V.b.den, .int .i64 V.c.re, .int .i64 V.c.im, .int .i64 V.c.den, .int .i64 V.d.re, .int .i64 V.d.im, .int .i64 V.d.den] 51)) w5.heap.size (V.get) 4) := by show BoxAt _ _ _ _; exact BoxAt.new _ _ _ _ _ (src4 V)
      have HM0 := Lib.hid (HM0.out.alloc (by omega) (.cells #[.int .i64 V.a.re, .int .i64 V.a.im, .int .i64 V.a.den, .int .i64 V.b.re, .int .i64 V.b.im, .int .i64 V.b.den, .int .i64 V.c.re, .int .i64 V.c.im, .int .i64 V.c.den, .int .i64 V.d.re, .int .i64 V.d.im, .int .i64 V.d.den] 51))
      have HX := Lib.hid (HX.out.alloc (by omega) (.cells #[.int .i64 V.a.re, .int .i64 V.a.im, .int .i64 V.a.den, .int .i64 V.b.re, .int .i64 V.b.im, .int .i64 V.b.den, .int .i64 V.c.re, .int .i64 V.c.im, .int .i64 V.c.den, .int .i64 V.d.re, .int .i64 V.d.im, .int .i64 V.d.den] 51))
      have HO := Lib.hid (HO.out.alloc (.cells #[.int .i64 V.a.re, .int .i64 V.a.im, .int .i64 V.a.den, .int .i64 V.b.re, .int .i64 V.b.im, .int .i64 V.b.den, .int .i64 V.c.re, .int .i64 V.c.im, .int .i64 V.c.den, .int .i64 V.d.re, .int .i64 V.d.im, .int .i64 V.d.den] 51))
      have HR := Lib.hid (HR.out.alloc (.cells #[.int .i64 V.a.re, .int .i64 V.a.im, .int .i64 V.a.den, .int .i64 V.b.re, .int .i64 V.b.im, .int .i64 V.b.den, .int .i64 V.c.re, .int .i64 V.c.im, .int .i64 V.c.den, .int .i64 V.d.re, .int .i64 V.d.im, .int .i64 V.d.den] 51))
      go_wp2_with (first | ((with_reducible refine wpList_load_mid ?kt31 51 ?kt3x ?kt32 (w2.heap.size) 0 ?kt33 (cl S.get 4) ?kt3d ?kt34 ?kt35 ?kt36 ?kt37 ?kt38); (case kt32 => rfl); (case kt31 => rfl); (case kt33 => rfl); (case kt34 => exact (HX.out.range)); (case kt35 => exact Tryd.underlying51); (case kt36 => rfl); (case kt37 => kernel_rfl)) | ((with_reducible refine wpList_load_mid ?kt41 51 ?kt4x ?kt42 (w5.heap.size) 0 ?kt43 (cl V.get 4) ?kt4d ?kt44 ?kt45 ?kt46 ?kt47 ?kt48); (case kt42 => rfl); (case kt41 => rfl); (case kt43 => rfl); (case kt44 => exact (HY.out.range)); (case kt45 => exact Tryd.underlying51); (case kt46 => rfl); (case kt47 => kernel_rfl)))
      refine (sadd4_cl S V _).mono ?_
      rintro e w6 ho
      obtain ⟨U, o3, hS⟩ : ∃ SS oo, sAdd S V = (SS, oo) := ⟨_, _, rfl⟩
      rw [hS] at ho
      clear hS
      obtain ⟨rfl, hb⟩ : e = .returned (.tuple #[.agg #[.int .i64 U.a.re, .int .i64 U.a.im, .int .i64 U.a.den, .int .i64 U.b.re, .int .i64 U.b.im, .int .i64 U.b.den, .int .i64 U.c.re, .int .i64 U.c.im, .int .i64 U.c.den, .int .i64 U.d.re, .int .i64 U.d.im, .int .i64 U.d.den], .bool o3]) ∧ Below _ _ _ := ho.fn
      have HM0 := Lib.hid (HM0.out.below hb (by first | omega | (simp <;> omega)))
      have HX := Lib.hid (HX.out.below hb (by first | omega | (simp <;> omega)))
      have HY := Lib.hid (HY.out.below hb (by first | omega | (simp <;> omega)))
      have HO := Lib.hid (HO.out.below hb)
      have HR := Lib.hid (HR.out.next hb)
      have hz6 := hb.size
      (try simp at hz6)
      clear ho hb
      have nA0 : w.heap.size < w6.heap.size := by omega
      have nB0 : ¬ w.heap.size = w6.heap.size := by omega
      have nC0 : ¬ w6.heap.size = w.heap.size := by omega
      have nA1 : w2.heap.size < w6.heap.size := by omega
      have nB1 : ¬ w2.heap.size = w6.heap.size := by omega
      have nC1 : ¬ w6.heap.size = w2.heap.size := by omega
      have nA2 : w5.heap.size < w6.heap.size := by omega
      have nB2 : ¬ w5.heap.size = w6.heap.size := by omega
      have nC2 : ¬ w6.heap.size = w5.heap.size := by omega
      have nR : R < w6.heap.size := HR.out.lt
      have HZ : Hid (BoxAt (w6.alloc (.cells #[.int .i64 U.a.re, .int .i64 U.a.im, .int .i64 U.a.den, .int .i64 U.b.re, .int .i64 U.b.im, .int .i64 U.b.den, .int .i64 U.c.re, .int .i64 U.c.im, .int .i64 U.c.den, .int .i64 U.d.re, .int .i64 U.d.im, .int .i64 U.d.den] 51)) w6.heap.size (U.get) 4) := by show BoxAt _ _ _ _; exact BoxAt.new _ _ _ _ _ (src4 U)
      have HM0 := Lib.hid (HM0.out.alloc (by omega) (.cells #[.int .i64 U.a.re, .int .i64 U.a.im, .int .i64 U.a.den, .int .i64 U.b.re, .int .i64 U.b.im, .int .i64 U.b.den, .int .i64 U.c.re, .int .i64 U.c.im, .int .i64 U.c.den, .int .i64 U.d.re, .int .i64 U.d.im, .int .i64 U.d.den] 51))
      have HX := Lib.hid (HX.out.alloc (by omega) (.cells #[.int .i64 U.a.re, .int .i64 U.a.im, .int .i64 U.a.den, .int .i64 U.b.re, .int .i64 U.b.im, .int .i64 U.b.den, .int .i64 U.c.re, .int .i64 U.c.im, .int .i64 U.c.den, .int .i64 U.d.re, .int .i64 U.d.im, .int .i64 U.d.den] 51))
      have HY := Lib.hid (HY.out.alloc (by omega) (.cells #[.int .i64 U.a.re, .int .i64 U.a.im, .int .i64 U.a.den, .int .i64 U.b.re, .int .i64 U.b.im, .int .i64 U.b.den, .int .i64 U.c.re, .int .i64 U.c.im, .int .i64 U.c.den, .int .i64 U.d.re, .int .i64 U.d.im, .int .i64 U.d.den] 51))
      have HO := Lib.hid (HO.out.alloc (.cells #[.int .i64 U.a.re, .int .i64 U.a.im, .int .i64 U.a.den, .int .i64 U.b.re, .int .i64 U.b.im, .int .i64 U.b.den, .int .i64 U.c.re, .int .i64 U.c.im, .int .i64 U.c.den, .int .i64 U.d.re, .int .i64 U.d.im, .int .i64 U.d.den] 51))
      have HR := Lib.hid (HR.out.alloc (.cells #[.int .i64 U.a.re, .int .i64 U.a.im, .int .i64 U.a.den, .int .i64 U.b.re, .int .i64 U.b.im, .int .i64 U.b.den, .int .i64 U.c.re, .int .i64 U.c.im, .int .i64 U.c.den, .int .i64 U.d.re, .int .i64 U.d.im, .int .i64 U.d.den] 51))
      cases o2
      · skip
        have HR := Lib.hid (HR.out.mono (show _ ≤ k + 300 by omega))
        go_wp2_with (first | ((with_reducible refine wpList_load_mid ?kt51 51 ?kt5x ?kt52 (w2.heap.size) 0 ?kt53 (cl S.get 4) ?kt5d ?kt54 ?kt55 ?kt56 ?kt57 ?kt58); (case kt52 => rfl); (case kt51 => rfl); (case kt53 => rfl); (case kt54 => exact (HX.out.range)); (case kt55 => exact Tryd.underlying51); (case kt56 => rfl); (case kt57 => kernel_rfl)) | ((with_reducible refine wpList_store_mid ?kt61 51 ?kt6x ?kt6y ?kt62 (w.heap.size) 0 (cl S.get 4).toArray ?kt63 ?kt64 ?kt65 ?kt66 ?kt67 ?kt68); (case kt62 => rfl); (case kt61 => rfl); (case kt63 => rfl); (case kt64 => rfl); (case kt65 => exact (HM0.out.thereC _)); (case kt66 => kernel_rfl); (case kt67 => exact (cl_one _ _))))
        refine bodyPost_ret (v := .agg (cl S.get 4).toArray) (results_cell_mid rfl _ _ (w.heap.size) (cl S.get 4) _ (by rfl) (World.rangeAt_setCells_same _ _ _ _ (HM0.out.thereC _)) Tryd.underlying51 rfl (by kernel_rfl)) rfl ⟨_, rfl, ⟨S, congrArg Value.agg (cl4 S)⟩, ?_, ?_⟩
        · exact HO.out.sets _ _ _ (by omega)
        · exact HR.out.puts _ _ _ (by omega)
      · cases o3
        · skip
          have HR := Lib.hid (HR.out.mono (show _ ≤ k + 300 by omega))
          go_wp2_with (first | ((with_reducible refine wpList_load_mid ?kt71 51 ?kt7x ?kt72 (w2.heap.size) 0 ?kt73 (cl S.get 4) ?kt7d ?kt74 ?kt75 ?kt76 ?kt77 ?kt78); (case kt72 => rfl); (case kt71 => rfl); (case kt73 => rfl); (case kt74 => exact (HX.out.range)); (case kt75 => exact Tryd.underlying51); (case kt76 => rfl); (case kt77 => kernel_rfl)) | ((with_reducible refine wpList_store_mid ?kt81 51 ?kt8x ?kt8y ?kt82 (w.heap.size) 0 (cl S.get 4).toArray ?kt83 ?kt84 ?kt85 ?kt86 ?kt87 ?kt88); (case kt82 => rfl); (case kt81 => rfl); (case kt83 => rfl); (case kt84 => rfl); (case kt85 => exact (HM0.out.thereC _)); (case kt86 => kernel_rfl); (case kt87 => exact (cl_one _ _))))
          refine bodyPost_ret (v := .agg (cl S.get 4).toArray) (results_cell_mid rfl _ _ (w.heap.size) (cl S.get 4) _ (by rfl) (World.rangeAt_setCells_same _ _ _ _ (HM0.out.thereC _)) Tryd.underlying51 rfl (by kernel_rfl)) rfl ⟨_, rfl, ⟨S, congrArg Value.agg (cl4 S)⟩, ?_, ?_⟩
          · exact HO.out.sets _ _ _ (by omega)
          · exact HR.out.puts _ _ _ (by omega)
        · skip
          go_wp2_with fail
          refine (pick_any 2 (by omega) (by omega) (by omega) HR.out).mono ?_
          rintro e w7 ⟨v, rfl, ⟨n, rfl, n0, n1⟩, hO, hR⟩
          have HM0 := Lib.hid (HM0.out.own hO (by first | omega | (simp <;> omega)) (by omega))
          have HX := Lib.hid (HX.out.own hO (by first | omega | (simp <;> omega)) (by omega))
          have HY := Lib.hid (HY.out.own hO (by first | omega | (simp <;> omega)) (by omega))
          have HZ := Lib.hid (HZ.out.own hO (by first | omega | (simp <;> omega)) (by omega))
          have HO := Lib.hid (HO.out.trans hO)
          have HR := Lib.hid hR
          have hz7 := hO.size
          (try simp at hz7)
          clear hO hR
          have nA0 : w.heap.size < w7.heap.size := by omega
          have nB0 : ¬ w.heap.size = w7.heap.size := by omega
          have nC0 : ¬ w7.heap.size = w.heap.size := by omega
          have nA1 : w2.heap.size < w7.heap.size := by omega
          have nB1 : ¬ w2.heap.size = w7.heap.size := by omega
          have nC1 : ¬ w7.heap.size = w2.heap.size := by omega
          have nA2 : w5.heap.size < w7.heap.size := by omega
          have nB2 : ¬ w5.heap.size = w7.heap.size := by omega
          have nC2 : ¬ w7.heap.size = w5.heap.size := by omega
          have nA3 : w6.heap.size < w7.heap.size := by omega
          have nB3 : ¬ w6.heap.size = w7.heap.size := by omega
          have nC3 : ¬ w7.heap.size = w6.heap.size := by omega
          have nR : R < w7.heap.size := HR.out.lt
          by_cases hn : n = 0
          · subst hn
            have HR := Lib.hid (HR.out.mono (show _ ≤ k + 300 by omega))
            go_wp2_with (first | ((with_reducible refine wpList_load_mid ?kt91 51 ?kt9x ?kt92 (w6.heap.size) 0 ?kt93 (cl U.get 4) ?kt9d ?kt94 ?kt95 ?kt96 ?kt97 ?kt98); (case kt92 => rfl); (case kt91 => rfl); (case kt93 => rfl); (case kt94 => exact (HZ.out.range)); (case kt95 => exact Tryd.underlying51); (case kt96 => rfl); (case kt97 => kernel_rfl)) | ((with_reducible refine wpList_store_mid ?kt101 51 ?kt10x ?kt10y ?kt102 (w.heap.size) 0 (cl U.get 4).toArray ?kt103 ?kt104 ?kt105 ?kt106 ?kt107 ?kt108); (case kt102 => rfl); (case kt101 => rfl); (case kt103 => rfl); (case kt104 => rfl); (case kt105 => exact (HM0.out.thereC _)); (case kt106 => kernel_rfl); (case kt107 => exact (cl_one _ _))))
            refine bodyPost_ret (v := .agg (cl U.get 4).toArray) (results_cell_mid rfl _ _ (w.heap.size) (cl U.get 4) _ (by rfl) (World.rangeAt_setCells_same _ _ _ _ (HM0.out.thereC _)) Tryd.underlying51 rfl (by kernel_rfl)) rfl ⟨_, rfl, ⟨U, congrArg Value.agg (cl4 U)⟩, ?_, ?_⟩
            · exact HO.out.sets _ _ _ (by omega)
            · exact HR.out.puts _ _ _ (by omega)
          · have qn : (n == 0) = false := by simpa using hn
            clear hn
            have HR := Lib.hid (HR.out.mono (show _ ≤ k + 300 by omega))
            go_wp2_with (first | ((with_reducible refine wpList_load_mid ?kt111 51 ?kt11x ?kt112 (w2.heap.size) 0 ?kt113 (cl S.get 4) ?kt11d ?kt114 ?kt115 ?kt116 ?kt117 ?kt118); (case kt112 => rfl); (case kt111 => rfl); (case kt113 => rfl); (case kt114 => exact (HX.out.range)); (case kt115 => exact Tryd.underlying51); (case kt116 => rfl); (case kt117 => kernel_rfl)) | ((with_reducible refine wpList_store_mid ?kt121 51 ?kt12x ?kt12y ?kt122 (w.heap.size) 0 (cl S.get 4).toArray ?kt123 ?kt124 ?kt125 ?kt126 ?kt127 ?kt128); (case kt122 => rfl); (case kt121 => rfl); (case kt123 => rfl); (case kt124 => rfl); (case kt125 => exact (HM0.out.thereC _)); (case kt126 => kernel_rfl); (case kt127 => exact (cl_one _ _))))
            refine bodyPost_ret (v := .agg (cl S.get 4).toArray) (results_cell_mid rfl _ _ (w.heap.size) (cl S.get 4) _ (by rfl) (World.rangeAt_setCells_same _ _ _ _ (HM0.out.thereC _)) Tryd.underlying51 rfl (by kernel_rfl)) rfl ⟨_, rfl, ⟨S, congrArg Value.agg (cl4 S)⟩, ?_, ?_⟩
            · exact HO.out.sets _ _ _ (by omega)
            · exact HR.out.puts _ _ _ (by omega)
    · skip
      go_wp2
      clear HX
      go_loopw [10] (fun v wr => DR N R a0 len cap (k + 21) w3.heap.size w v wr) (fun v _ => (4 - intOf v).toNat)
      case atStart => exact ⟨0, rfl, by omega, HO.out.alloc _, (HR.out.alloc _).mono (by omega), by omega, by simp, HM0.out.alloc (by first | omega | (simp <;> omega)) _, Room.new' (by simp) rfl, fun _ => fz, fun k hk => absurd hk (by omega)⟩
      case round =>
        obtain ⟨i, rfl, hT⟩ := hrel
        clear HO HR HM0
        by_cases h4 : i < 4
        · have j0 : (0 : Int) ≤ (i : Int) := by omega
          have j1 : (i : Int) < 4 := by omega
          have HT := Lib.hid hT
          clear hT
          go_wp2_with fail
          refine (l91Real_any (by omega) HT.out.rd).mono ?_
          rintro e wv ⟨v, rfl, ⟨f, rfl⟩, hO, hR⟩
          have HS := Lib.hid (HT.out.step h4 hRl hO hR f)
          have hlo := HT.out.lo
          have hhi := HT.out.hi
          have hr := HT.out.room.own hO hhi (by omega)
          obtain ⟨v0, e0⟩ := Option.isSome_iff_exists.1 (hr (i * 3) (by omega)).1
          have f0 := (hr (i * 3) (by omega)).2
          obtain ⟨v1, e1⟩ := Option.isSome_iff_exists.1 (hr (i * 3 + 1) (by omega)).1
          have f1 := (hr (i * 3 + 1) (by omega)).2
          obtain ⟨v2, e2⟩ := Option.isSome_iff_exists.1 (hr (i * 3 + 2) (by omega)).1
          have f2 := (hr (i * 3 + 2) (by omega)).2
          clear hr hO hR HT
          go_wp2
          go_roundw
          case rel => exact ⟨i + 1, by go_num, HS.out⟩
          case measure => simp [intOf]; omega
        · obtain rfl : i = 4 := by have := hT.le; omega
          obtain ⟨gg, hg⟩ := hT.box
          have HX : Hid (BoxAt wr (w3.heap.size) (m4g gg).get 4) := fun j hj => by rw [m4g_get gg hj]; exact hg j hj
          have HM0 := Lib.hid hT.res
          have HO := Lib.hid hT.own
          have HR := Lib.hid hT.rd
          have hzw := hT.own.size
          clear hT hg
          have HR := Lib.hid (HR.out.mono (show _ ≤ k + 300 by omega))
          go_wp2_with (first | ((with_reducible refine wpList_load_mid ?kt131 51 ?kt13x ?kt132 (w3.heap.size) 0 ?kt133 (cl (m4g gg).get 4) ?kt13d ?kt134 ?kt135 ?kt136 ?kt137 ?kt138); (case kt132 => rfl); (case kt131 => rfl); (case kt133 => rfl); (case kt134 => exact (HX.out.range)); (case kt135 => exact Tryd.underlying51); (case kt136 => rfl); (case kt137 => kernel_rfl)) | ((with_reducible refine wpList_store_mid ?kt141 51 ?kt14x ?kt14y ?kt142 (w.heap.size) 0 (cl (m4g gg).get 4).toArray ?kt143 ?kt144 ?kt145 ?kt146 ?kt147 ?kt148); (case kt142 => rfl); (case kt141 => rfl); (case kt143 => rfl); (case kt144 => rfl); (case kt145 => exact (HM0.out.thereC _)); (case kt146 => kernel_rfl); (case kt147 => exact (cl_one _ _))))
          refine bodyPost_ret (v := .agg (cl (m4g gg).get 4).toArray) (results_cell_mid rfl _ _ (w.heap.size) (cl (m4g gg).get 4) _ (by rfl) (World.rangeAt_setCells_same _ _ _ _ (HM0.out.thereC _)) Tryd.underlying51 rfl (by kernel_rfl)) rfl ⟨_, rfl, ⟨(m4g gg), congrArg Value.agg (cl4 (m4g gg))⟩, ?_, ?_⟩
          · exact HO.out.sets _ _ _ (by omega)
          · exact HR.out.puts _ _ _ (by omega)
def OpenOut (N : Nat) (a0 : Option Addr) (cap : Nat) (w : World) (e : Ending) (w' : World) : Prop := ∃ R len', e = .returned (.pointer (some ⟨R, 0, none⟩)) ∧ Below w.heap.size w w' ∧ w.heap.size ≤ R ∧ Rd N R a0 len' cap 0 w'
set_option maxHeartbeats 2000000 in
theorem open_any (N : Nat) (a0 : Option Addr) (len cap : Nat) (w : World) (hN : N ≤ w.heap.size) (hc : len ≤ cap) (HC : Code N w a0 len) :
    Calls Tryd.prog 82 #[.slice a0 len cap] w (OpenOut N a0 cap w) := by
  by_cases h : 2000 < len
  · obtain ⟨B, off, rfl, hB, -⟩ := HC 0 (by omega)
    have h1 : (2000 : Int) < (len : Int) := by omega
    have h2 : (2000 : Int) ≤ (cap : Int) := by omega
    have h3 : 2000 ≤ cap := by omega
    go_enter Tryd.func82, Tryd.ntmps82
    go_wp2
    go_ret
    refine ⟨w.heap.size, 2000, rfl, by (repeat' first | exact Below.refl _ _ | apply bl_alloc | apply bl_drewN | apply bl_drew | refine bl_trans ?_ (by assumption) | refine bl_set ?_ (by first | omega | (simp <;> omega)) _), Nat.le_refl _, ⟨by simp, hN, by simp [go_sem], ⟨0, by omega, by simp [go_sem]⟩, by simp [go_sem], by omega, ?_⟩⟩
    exact Code.keep (fun i hi => HC i (by omega)) fun B o hB => World.cell?_alloc_old _ _ _ (by show B ≠ w.heap.size; omega)
  · have h1 : ¬ (2000 : Int) < (len : Int) := by omega
    go_enter Tryd.func82, Tryd.ntmps82
    go_wp2
    go_ret
    refine ⟨w.heap.size, len, rfl, by (repeat' first | exact Below.refl _ _ | apply bl_alloc | apply bl_drewN | apply bl_drew | refine bl_trans ?_ (by assumption) | refine bl_set ?_ (by first | omega | (simp <;> omega)) _), Nat.le_refl _, ⟨by simp, hN, by simp [go_sem], ⟨0, by omega, by simp [go_sem]⟩, by simp [go_sem], by omega, ?_⟩⟩
    exact HC.keep fun B o hB => World.cell?_alloc_old _ _ _ (by show B ≠ w.heap.size; omega)
set_option maxRecDepth 100000 in
set_option maxHeartbeats 8000000 in
theorem DrawStokesPure_any (a0 : Option Addr) (len cap : Nat) (w : World) (hc : len ≤ cap) (HC : Code w.heap.size w a0 len) :
    Calls Tryd.prog 42 #[.slice a0 len cap] w fun e w' => ∃ m : M4, e = .returned (.agg (cl m.get 4).toArray) ∧ Below w.heap.size w w' := by
  have HM0 : Hid (Room (w.alloc (.cells #[.int .i64 0, .int .i64 0, .int .i64 0, .int .i64 0, .int .i64 0, .int .i64 0, .int .i64 0, .int .i64 0, .int .i64 0, .int .i64 0, .int .i64 0, .int .i64 0] 51)) w.heap.size 4) := by show Room _ _ _; exact Room.new' rfl rfl
  have HB : Hid (Below w.heap.size w (w.alloc (.cells #[.int .i64 0, .int .i64 0, .int .i64 0, .int .i64 0, .int .i64 0, .int .i64 0, .int .i64 0, .int .i64 0, .int .i64 0, .int .i64 0, .int .i64 0, .int .i64 0] 51))) := by show Below _ _ _; (repeat' first | exact Below.refl _ _ | apply bl_alloc | apply bl_drewN | apply bl_drew | refine bl_trans ?_ (by assumption) | refine bl_set ?_ (by first | omega | (simp <;> omega)) _)
  have HC1 : Code w.heap.size (w.alloc (.cells #[.int .i64 0, .int .i64 0, .int .i64 0, .int .i64 0, .int .i64 0, .int .i64 0, .int .i64 0, .int .i64 0, .int .i64 0, .int .i64 0, .int .i64 0, .int .i64 0] 51)) a0 len := fun i hi => by
    obtain ⟨B, off, h1, h2, z, h3, h4, h5⟩ := HC i hi
    exact ⟨B, off, h1, h2, z, h3, h4, (World.cell?_alloc_old _ _ _ (by show B ≠ w.heap.size; omega)).trans h5⟩
  go_enter Tryd.func42, Tryd.ntmps42
  go_wp2_with fail
  refine (open_any w.heap.size a0 len cap _ (by simp) hc HC1).mono ?_
  rintro e w1 ⟨R, len', rfl, hb, hRb, hR⟩
  have HM0 := Lib.hid (HM0.out.below hb (by simp))
  have HB := Lib.hid (show Below w.heap.size w w1 from HB.out.trans (hb.mono HB.out.size))
  have hz1 := hb.size
  (try simp at hz1)
  (try simp at hRb)
  have hRl := hR.lt
  clear hb
  go_wp2_with fail
  refine (l91Stokes_any (by omega) hR).mono ?_
  rintro e w2 ⟨v, rfl, ⟨m, rfl⟩, hO, hR2⟩
  have HM0 := Lib.hid (HM0.out.own hO (by omega) (by omega))
  have HB := Lib.hid (hO.mine HB.out (by omega))
  clear hR hR2 hO
  rw [← cl4 m]
  go_wp2_with (first | ((with_reducible refine wpList_store_mid ?ks1 51 ?ksx ?ksy ?ks2 (w.heap.size) 0 (cl m.get 4).toArray ?ks3 ?ks4 ?ks5 ?ks6 ?ks7 ?ks8); (case ks2 => rfl); (case ks1 => rfl); (case ks3 => rfl); (case ks4 => rfl); (case ks5 => exact (HM0.out.thereC _)); (case ks6 => kernel_rfl); (case ks7 => exact (cl_one _ _))))
  refine bodyPost_ret (v := .agg (cl m.get 4).toArray) (results_cell_mid rfl _ _ (w.heap.size) (cl m.get 4) _ (by rfl) (World.rangeAt_setCells_same _ _ _ _ (HM0.out.thereC _)) Tryd.underlying51 rfl (by kernel_rfl)) rfl ⟨m, rfl, ?_⟩
  exact setCells_below _ _ _ HB.out (by omega)
end Go.Proofs.YtmcokdiopcpifaaDoor
