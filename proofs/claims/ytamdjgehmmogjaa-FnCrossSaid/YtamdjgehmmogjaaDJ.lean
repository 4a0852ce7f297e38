/- Contracts: draws of a vector. -/
import Derived.Test.YtamdjgehmmogjaaDS
set_option maxRecDepth 100000
namespace Go.Proofs.Ytamdjgehmmogjaa
open Go.RowKit Pol

def J2Dr (w : World) (e : Ending) (w' : World) : Prop := ∃ m : J2, e = .returned (.agg #[.int .i64 m.x.re, .int .i64 m.x.im, .int .i64 m.x.den, .int .i64 m.y.re, .int .i64 m.y.im, .int .i64 m.y.den]) ∧ Below w.heap.size w w'
set_option maxRecDepth 100000 in
set_option maxHeartbeats 8000000 in
theorem DrawJonesCross_any (a0 : Option Addr) (len cap : Nat) (w : World) (hc : len ≤ cap) (HC : Code w.heap.size w a0 len) :
    Calls Try.prog 7 #[.slice a0 len cap] w (J2Dr w) := by
  have HM0 : Hid (Room (w.alloc (.cells #[.int .i64 0, .int .i64 0, .int .i64 0, .int .i64 0, .int .i64 0, .int .i64 0] 26)) w.heap.size 2) := by show Room _ _ _; exact Room.new' rfl rfl
  have HB : Hid (Below w.heap.size w (w.alloc (.cells #[.int .i64 0, .int .i64 0, .int .i64 0, .int .i64 0, .int .i64 0, .int .i64 0] 26))) := by show Below _ _ _; (repeat' first | exact Below.refl _ _ | apply bl_alloc | apply bl_drewN | apply bl_drew | refine bl_trans ?_ (by assumption) | refine bl_set ?_ (by first | omega | (simp <;> omega)) _)
  have HC1 : Code w.heap.size (w.alloc (.cells #[.int .i64 0, .int .i64 0, .int .i64 0, .int .i64 0, .int .i64 0, .int .i64 0] 26)) a0 len := fun i hi => by
    obtain ⟨B, off, h1, h2, z, h3, h4, h5⟩ := HC i hi
    exact ⟨B, off, h1, h2, z, h3, h4, (World.cell?_alloc_old _ _ _ (by show B ≠ w.heap.size; omega)).trans h5⟩
  go_enter Try.func7, Try.ntmps7
  go_wp2_with fail
  refine (open_any w.heap.size a0 len cap _ (by simp) hc HC1).mono ?_
  rintro e w1 ⟨R, len', rfl, hb, hRb, hR⟩
  have HM0 := Lib.hid (HM0.out.below hb (by simp))
  have HB := Lib.hid (show Below w.heap.size w w1 from HB.out.trans (hb.mono HB.out.size))
  have hz1 := hb.size
  (try simp at hz1)
  (try simp at hRb)
  have hRl := hR.lt
  clear hb
  go_wp2_with fail
  refine (l91Jones_any (by omega) hR).mono ?_
  rintro e w2 ⟨v, rfl, ⟨m, rfl⟩, hO, hR2⟩
  have HM0 := Lib.hid (HM0.out.own hO (by omega) (by omega))
  have HB := Lib.hid (hO.mine HB.out (by omega))
  clear hR hR2 hO
  obtain ⟨y0, e0⟩ := Option.isSome_iff_exists.1 (HM0.out 0 (by omega)).1
  have f0 := (HM0.out 0 (by omega)).2
  obtain ⟨y1, e1⟩ := Option.isSome_iff_exists.1 (HM0.out 1 (by omega)).1
  have f1 := (HM0.out 1 (by omega)).2
  obtain ⟨y2, e2⟩ := Option.isSome_iff_exists.1 (HM0.out 2 (by omega)).1
  have f2 := (HM0.out 2 (by omega)).2
  obtain ⟨y3, e3⟩ := Option.isSome_iff_exists.1 (HM0.out 3 (by omega)).1
  have f3 := (HM0.out 3 (by omega)).2
  obtain ⟨y4, e4⟩ := Option.isSome_iff_exists.1 (HM0.out 4 (by omega)).1
  have f4 := (HM0.out 4 (by omega)).2
  obtain ⟨y5, e5⟩ := Option.isSome_iff_exists.1 (HM0.out 5 (by omega)).1
  have f5 := (HM0.out 5 (by omega)).2
  go_wp2
  refine bodyPost_ret (v := .agg #[.int .i64 m.x.re, .int .i64 m.x.im, .int .i64 m.x.den, .int .i64 m.y.re, .int .i64 m.y.im, .int .i64 m.y.den]) (by simp [results, Try.results7, go_sem, *]) rfl ⟨m, rfl, ?_⟩
  iterate 6 refine Below.setCell ?_ (by show _ ≤ _; exact Nat.le_refl _) _
  exact HB.out
set_option maxRecDepth 100000 in
set_option maxHeartbeats 8000000 in
theorem DrawJonesFits_any (a0 : Option Addr) (len cap : Nat) (w : World) (hc : len ≤ cap) (HC : Code w.heap.size w a0 len) :
    Calls Try.prog 16 #[.slice a0 len cap] w (J2Dr w) := by
  have HM0 : Hid (Room (w.alloc (.cells #[.int .i64 0, .int .i64 0, .int .i64 0, .int .i64 0, .int .i64 0, .int .i64 0] 26)) w.heap.size 2) := by show Room _ _ _; exact Room.new' rfl rfl
  have HB : Hid (Below w.heap.size w (w.alloc (.cells #[.int .i64 0, .int .i64 0, .int .i64 0, .int .i64 0, .int .i64 0, .int .i64 0] 26))) := by show Below _ _ _; (repeat' first | exact Below.refl _ _ | apply bl_alloc | apply bl_drewN | apply bl_drew | refine bl_trans ?_ (by assumption) | refine bl_set ?_ (by first | omega | (simp <;> omega)) _)
  have HC1 : Code w.heap.size (w.alloc (.cells #[.int .i64 0, .int .i64 0, .int .i64 0, .int .i64 0, .int .i64 0, .int .i64 0] 26)) a0 len := fun i hi => by
    obtain ⟨B, off, h1, h2, z, h3, h4, h5⟩ := HC i hi
    exact ⟨B, off, h1, h2, z, h3, h4, (World.cell?_alloc_old _ _ _ (by show B ≠ w.heap.size; omega)).trans h5⟩
  go_enter Try.func16, Try.ntmps16
  go_wp2_with fail
  refine (open_any w.heap.size a0 len cap _ (by simp) hc HC1).mono ?_
  rintro e w1 ⟨R, len', rfl, hb, hRb, hR⟩
  have HM0 := Lib.hid (HM0.out.below hb (by simp))
  have HB := Lib.hid (show Below w.heap.size w w1 from HB.out.trans (hb.mono HB.out.size))
  have hz1 := hb.size
  (try simp at hz1)
  (try simp at hRb)
  have hRl := hR.lt
  clear hb
  go_wp2_with fail
  refine (l91Jones_any (by omega) hR).mono ?_
  rintro e w2 ⟨v, rfl, ⟨m, rfl⟩, hO, hR2⟩
  have HM0 := Lib.hid (HM0.out.own hO (by omega) (by omega))
  have HB := Lib.hid (hO.mine HB.out (by omega))
  clear hR hR2 hO
  obtain ⟨y0, e0⟩ := Option.isSome_iff_exists.1 (HM0.out 0 (by omega)).1
  have f0 := (HM0.out 0 (by omega)).2
  obtain ⟨y1, e1⟩ := Option.isSome_iff_exists.1 (HM0.out 1 (by omega)).1
  have f1 := (HM0.out 1 (by omega)).2
  obtain ⟨y2, e2⟩ := Option.isSome_iff_exists.1 (HM0.out 2 (by omega)).1
  have f2 := (HM0.out 2 (by omega)).2
  obtain ⟨y3, e3⟩ := Option.isSome_iff_exists.1 (HM0.out 3 (by omega)).1
  have f3 := (HM0.out 3 (by omega)).2
  obtain ⟨y4, e4⟩ := Option.isSome_iff_exists.1 (HM0.out 4 (by omega)).1
  have f4 := (HM0.out 4 (by omega)).2
  obtain ⟨y5, e5⟩ := Option.isSome_iff_exists.1 (HM0.out 5 (by omega)).1
  have f5 := (HM0.out 5 (by omega)).2
  go_wp2
  refine bodyPost_ret (v := .agg #[.int .i64 m.x.re, .int .i64 m.x.im, .int .i64 m.x.den, .int .i64 m.y.re, .int .i64 m.y.im, .int .i64 m.y.den]) (by simp [results, Try.results16, go_sem, *]) rfl ⟨m, rfl, ?_⟩
  iterate 6 refine Below.setCell ?_ (by show _ ≤ _; exact Nat.le_refl _) _
  exact HB.out
end Go.Proofs.Ytamdjgehmmogjaa
