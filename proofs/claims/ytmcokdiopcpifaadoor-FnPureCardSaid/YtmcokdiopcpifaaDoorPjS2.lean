/- Contracts: squares of the numbers of polarisation, the reference's side. -/
import Derived.Test.YtmcokdiopcpifaaDoorPjK2
import Derived.Test.YtmcokdiopcpifaaDoorPjG16
set_option maxRecDepth 100000
namespace Go.Proofs.YtmcokdiopcpifaaDoor
open Go.RowKit Pol
/-- Where the loop stands: the places from 1 to m - 1 are done. -/
structure QRel (W : World) (A R O : Nat) (a : M4) (m : Nat) (wr : World) : Prop where
  lo : 1 ≤ m
  le : m ≤ 4
  below : Below W.heap.size W wr
  size : O + 1 ≤ wr.heap.size
  one : BoxAt wr A a.get 4
  res : Room wr R 1
  room : Room wr O 1
  out : BoxAt wr O (fun _ => accQ a m) 1
  good : ∀ j, 1 ≤ j → j < m → (tQ a j).2 = true ∧ (nQ a j).2 = true
def QR (W : World) (A R O : Nat) (a : M4) (i : Value) (wr : World) : Prop := ∃ m : Nat, i = .int .i64 m ∧ QRel W A R O a m wr
theorem QRel.next {W wr w1 : World} {A R O : Nat} {a : M4} {m : Nat} (h : QRel W A R O a m wr) (hA : A < O) (hR : R < O) (hb : Below wr.heap.size wr w1) : QRel W A R O a m w1 := by
  have hz := h.size
  exact ⟨h.lo, h.le, h.below.trans (hb.mono h.below.size), Nat.le_trans hz hb.size, h.one.below hb (by omega), h.res.below hb (by omega), h.room.below hb (by omega), h.out.below hb (by omega), h.good⟩
theorem QRel.alloc {W wr : World} {A R O : Nat} {a : M4} {m : Nat} (h : QRel W A R O a m wr) (hA : A < O) (hR : R < O) (x : Obj) : QRel W A R O a m (wr.alloc x) := h.next hA hR ((Below.refl _ _).alloc (Nat.le_refl _) x)
theorem QRel.drew {W wr : World} {A R O : Nat} {a : M4} {m : Nat} (h : QRel W A R O a m wr) : QRel W A R O a m wr.drew := ⟨h.lo, h.le, h.below.drew, h.size, h.one, h.res, h.room, h.out, h.good⟩
theorem QRel.other {W wr : World} {A R O : Nat} {a : M4} {m : Nat} (h : QRel W A R O a m wr) (hA : A < O) (_hR : R < O) (hW : W.heap.size ≤ O) {b : Nat} (hb : O < b) (g : Fr) : QRel W A R O a m (putF wr b 0 g) :=
  ⟨h.lo, h.le, ((h.below.setCell (by show _ ≤ b; omega) _).setCell (by show _ ≤ b; omega) _).setCell (by show _ ≤ b; omega) _, by rw [putF_size]; exact h.size, h.one.put_other (by omega) 0 g, h.res.put _ _ _, h.room.put _ _ _, h.out.put_other (by omega) 0 g, h.good⟩
theorem QRel.put {W wr : World} {A R O : Nat} {a : M4} {m : Nat} (h : QRel W A R O a m wr) (hA : A < O) (_hR : R < O) (hW : W.heap.size ≤ O) (h4 : m < 4) (h1 : (tQ a m).2 = true) (h2 : (nQ a m).2 = true) : QRel W A R O a (m + 1) (putF wr O 0 (nQ a m).1) := by
  refine ⟨by omega, h4, ((h.below.setCell hW _).setCell hW _).setCell hW _, by rw [putF_size]; exact h.size, h.one.put_other (by omega) 0 _, h.res.put _ _ _, h.room.put _ _ _, ?_, fun j j1 j2 => ?_⟩
  · rw [accQ_next a h.lo]; exact BoxAt.put (g := fun _ => (nQ a m).1) (k := 0) (fun k hk => absurd hk (by omega)) h.room (by omega)
  · rcases Nat.lt_or_ge j m with h3 | h3
    · exact h.good j j1 h3
    · obtain rfl : j = m := by omega
      exact ⟨h1, h2⟩
set_option maxRecDepth 100000 in
set_option maxHeartbeats 40000000 in
theorem ssq_any (a : M4) (w : World) :
    Calls Tryd.prog 131 #[.agg #[.int .i64 a.a.re, .int .i64 a.a.im, .int .i64 a.a.den, .int .i64 a.b.re, .int .i64 a.b.im, .int .i64 a.b.den, .int .i64 a.c.re, .int .i64 a.c.im, .int .i64 a.c.den, .int .i64 a.d.re, .int .i64 a.d.im, .int .i64 a.d.den]] w (FrOut (sSq a) w) := by
  have HB : Hid (Below w.heap.size w (((w.alloc (.cells #[.int .i64 a.a.re, .int .i64 a.a.im, .int .i64 a.a.den, .int .i64 a.b.re, .int .i64 a.b.im, .int .i64 a.b.den, .int .i64 a.c.re, .int .i64 a.c.im, .int .i64 a.c.den, .int .i64 a.d.re, .int .i64 a.d.im, .int .i64 a.d.den] 51)).alloc (.cells #[.int .i64 0, .int .i64 0, .int .i64 0] 23)).alloc (.cells #[.int .i64 0, .int .i64 0, .int .i64 1] 23))) := by
    show Below _ _ _
    (repeat' first | exact Below.refl _ _ | apply bl_alloc | apply bl_drewN | apply bl_drew | refine bl_trans ?_ (by assumption) | refine bl_set ?_ (by first | omega | (simp <;> omega)) _)
  have HR : Hid (Room (((w.alloc (.cells #[.int .i64 a.a.re, .int .i64 a.a.im, .int .i64 a.a.den, .int .i64 a.b.re, .int .i64 a.b.im, .int .i64 a.b.den, .int .i64 a.c.re, .int .i64 a.c.im, .int .i64 a.c.den, .int .i64 a.d.re, .int .i64 a.d.im, .int .i64 a.d.den] 51)).alloc (.cells #[.int .i64 0, .int .i64 0, .int .i64 0] 23)).alloc (.cells #[.int .i64 0, .int .i64 0, .int .i64 1] 23)) (w.heap.size + 1) 1) := by
    show Room _ _ _
    exact (Room.new' (by simp) rfl).alloc (by simp) _
  have HX : Hid (BoxAt (((w.alloc (.cells #[.int .i64 a.a.re, .int .i64 a.a.im, .int .i64 a.a.den, .int .i64 a.b.re, .int .i64 a.b.im, .int .i64 a.b.den, .int .i64 a.c.re, .int .i64 a.c.im, .int .i64 a.c.den, .int .i64 a.d.re, .int .i64 a.d.im, .int .i64 a.d.den] 51)).alloc (.cells #[.int .i64 0, .int .i64 0, .int .i64 0] 23)).alloc (.cells #[.int .i64 0, .int .i64 0, .int .i64 1] 23)) (w.heap.size) a.get 4) := by
    show BoxAt _ _ _ _
    exact ((BoxAt.new _ _ _ _ _ (src4 a)).alloc (by simp) _).alloc (by simp) _
  have HS : Hid (Room (((w.alloc (.cells #[.int .i64 a.a.re, .int .i64 a.a.im, .int .i64 a.a.den, .int .i64 a.b.re, .int .i64 a.b.im, .int .i64 a.b.den, .int .i64 a.c.re, .int .i64 a.c.im, .int .i64 a.c.den, .int .i64 a.d.re, .int .i64 a.d.im, .int .i64 a.d.den] 51)).alloc (.cells #[.int .i64 0, .int .i64 0, .int .i64 0] 23)).alloc (.cells #[.int .i64 0, .int .i64 0, .int .i64 1] 23)) (w.heap.size + 1 + 1) 1) := by
    show Room _ _ _
    exact Room.new' (by simp) rfl
  have HO : Hid (BoxAt (((w.alloc (.cells #[.int .i64 a.a.re, .int .i64 a.a.im, .int .i64 a.a.den, .int .i64 a.b.re, .int .i64 a.b.im, .int .i64 a.b.den, .int .i64 a.c.re, .int .i64 a.c.im, .int .i64 a.c.den, .int .i64 a.d.re, .int .i64 a.d.im, .int .i64 a.d.den] 51)).alloc (.cells #[.int .i64 0, .int .i64 0, .int .i64 0] 23)).alloc (.cells #[.int .i64 0, .int .i64 0, .int .i64 1] 23)) (w.heap.size + 1 + 1) (fun _ => accQ a 1) 1) := by
    show BoxAt _ _ _ _
    exact BoxAt.new' (by simp) (src1 f0)
  cases h1 : all4 realB a
  · have HG : Hid (sSq a = (fz, false)) := sSq_bad0 h1
    go_enter Tryd.func131, Tryd.ntmps131
    go_wp2_with fail
    refine (sstokesvalid_any a _).mono ?_
    rintro e w1 ⟨rfl, hb⟩
    have HR := Lib.hid (HR.out.below hb (by first | omega | (simp <;> omega)))
    have HX := Lib.hid (HX.out.below hb (by first | omega | (simp <;> omega)))
    have HS := Lib.hid (HS.out.below hb (by first | omega | (simp <;> omega)))
    have HO := Lib.hid (HO.out.below hb (by first | omega | (simp <;> omega)))
    have HB := Lib.hid (show Below w.heap.size w w1 from HB.out.trans (hb.mono HB.out.size))
    have hz : w.heap.size + 1 + 1 + 1 ≤ w1.heap.size := Nat.le_trans (by simp) hb.size
    clear hb
    obtain ⟨y0, e0⟩ := Option.isSome_iff_exists.1 (HR.out 0 (by omega)).1
    obtain ⟨y1, e1⟩ := Option.isSome_iff_exists.1 (HR.out 1 (by omega)).1
    obtain ⟨y2, e2⟩ := Option.isSome_iff_exists.1 (HR.out 2 (by omega)).1
    have g0 := (HR.out 0 (by omega)).2
    have g1 := (HR.out 1 (by omega)).2
    have g2 := (HR.out 2 (by omega)).2
    go_wp2
    refine bodyPost_ret (v := .tuple #[.agg #[.int .i64 0, .int .i64 0, .int .i64 0], .bool false]) (by simp [results, Tryd.results131, go_sem, *]) rfl (FrOut.no HG.out ?_)
    (repeat' first | (with_reducible exact HB.out) | with_reducible refine setCells_below _ _ _ ?_ (by first | omega | (simp <;> omega)) | with_reducible refine Below.setCell ?_ (by show _ ≤ _; first | omega | (simp <;> omega) | simp) _ | with_reducible refine Below.alloc ?_ (by first | omega | (simp <;> omega)) _ | with_reducible apply Below.drew)
  · have HV : Hid (all4 realB a = true) := h1
    go_enter Tryd.func131, Tryd.ntmps131
    go_wp2_with fail
    refine (sstokesvalid_any a _).mono ?_
    rintro e w1 ⟨rfl, hb⟩
    have HR := Lib.hid (HR.out.below hb (by first | omega | (simp <;> omega)))
    have HX := Lib.hid (HX.out.below hb (by first | omega | (simp <;> omega)))
    have HS := Lib.hid (HS.out.below hb (by first | omega | (simp <;> omega)))
    have HO := Lib.hid (HO.out.below hb (by first | omega | (simp <;> omega)))
    have HB := Lib.hid (show Below w.heap.size w w1 from HB.out.trans (hb.mono HB.out.size))
    have hz : w.heap.size + 1 + 1 + 1 ≤ w1.heap.size := Nat.le_trans (by simp) hb.size
    clear hb
    go_wp2
    go_loopw [5] (fun i wr => QR w (w.heap.size) (w.heap.size + 1) (w.heap.size + 1 + 1) a i wr) (fun i _ => (4 - intOf i).toNat)
    case atStart =>
      exact ⟨1, rfl, by omega, by omega, HB.out, hz, HX.out, HR.out, HS.out, HO.out, fun j j1 j2 => absurd j1 (by omega)⟩
    case round =>
      obtain ⟨m, rfl, hT⟩ := hrel
      clear HB HR HX HS HO hz
      by_cases h4 : m < 4
      · have i0 : (0 : Int) ≤ (m : Int) := by omega
        have i1 : (m : Int) < 4 := by omega
        have HT := Lib.hid hT
        clear hT
        cases hp : (fTimes (a.get m) (a.get m)).2
        · have hp0 := hp
          have HG : Hid (sSq a = (fz, false)) := sSq_badm HT.out.lo h4 HT.out.good (Or.inl hp)
          clear hp0
          have hs := HT.out.size
          have oA : w.heap.size < w.heap.size + 1 + 1 := by omega
          have oR : w.heap.size + 1 < w.heap.size + 1 + 1 := by omega
          have c0 : wr.cell? ⟨w.heap.size, m * 3, none⟩ = some (.int .i64 (a.get m).re) := (HT.out.one m h4).1
          have c1 : wr.cell? ⟨w.heap.size, m * 3 + 1, none⟩ = some (.int .i64 (a.get m).im) := (HT.out.one m h4).2.1
          have c2 : wr.cell? ⟨w.heap.size, m * 3 + 2, none⟩ = some (.int .i64 (a.get m).den) := (HT.out.one m h4).2.2
          have b0 : wr.drew.cell? ⟨w.heap.size, m * 3, none⟩ = some (.int .i64 (a.get m).re) := c0
          have p0 : ∀ z, (wr.alloc z).drew.cell? ⟨w.heap.size, m * 3, none⟩ = some (.int .i64 (a.get m).re) := fun z => (World.cell?_alloc_old _ _ _ (show w.heap.size ≠ wr.heap.size by omega)).trans c0
          have b1 : wr.drew.cell? ⟨w.heap.size, m * 3 + 1, none⟩ = some (.int .i64 (a.get m).im) := c1
          have p1 : ∀ z, (wr.alloc z).drew.cell? ⟨w.heap.size, m * 3 + 1, none⟩ = some (.int .i64 (a.get m).im) := fun z => (World.cell?_alloc_old _ _ _ (show w.heap.size ≠ wr.heap.size by omega)).trans c1
          have b2 : wr.drew.cell? ⟨w.heap.size, m * 3 + 2, none⟩ = some (.int .i64 (a.get m).den) := c2
          have p2 : ∀ z, (wr.alloc z).drew.cell? ⟨w.heap.size, m * 3 + 2, none⟩ = some (.int .i64 (a.get m).den) := fun z => (World.cell?_alloc_old _ _ _ (show w.heap.size ≠ wr.heap.size by omega)).trans c2
          clear c0 c1 c2
          go_wp2
          go_region_held3 (fun w' => w'.cell? ⟨w.heap.size, m * 3, none⟩ = some (.int .i64 (a.get m).re) ∧ w'.cell? ⟨w.heap.size, m * 3 + 1, none⟩ = some (.int .i64 (a.get m).im) ∧ w'.cell? ⟨w.heap.size, m * 3 + 2, none⟩ = some (.int .i64 (a.get m).den)) (((try dsimp only); (first | (with_reducible exact ⟨b0, b1, b2⟩) | (with_reducible exact ⟨p0 _, p1 _, p2 _⟩) | (with_reducible exact ⟨q0, q1, q2⟩) | (with_reducible exact ⟨r0 _, r1 _, r2 _⟩) | (with_reducible exact ⟨s0 _ _ _, s1 _ _ _, s2 _ _ _⟩)))) (first | (go_at_call 71; (with_reducible refine (sptimes_fr (a.get m) (a.get m) wr.drew).mono ?_); rintro e w5 ho; obtain ⟨rfl, hb⟩ := ho.fn; have HT := Lib.hid (HT.out.drew.next oA oR hb); have hz5 : wr.heap.size ≤ w5.heap.size := (by have := hb.size; simpa using this); have q0 : w5.cell? ⟨w.heap.size, m * 3, none⟩ = some (.int .i64 (a.get m).re) := (hb.cell (p := ⟨w.heap.size, m * 3, none⟩) (by show w.heap.size < _; first | omega | (simp <;> omega))).trans (b0); have r0 := fun z => (World.cell?_alloc_old _ z _ (show w.heap.size ≠ w5.heap.size by omega)).trans q0; have q1 : w5.cell? ⟨w.heap.size, m * 3 + 1, none⟩ = some (.int .i64 (a.get m).im) := (hb.cell (p := ⟨w.heap.size, m * 3 + 1, none⟩) (by show w.heap.size < _; first | omega | (simp <;> omega))).trans (b1); have r1 := fun z => (World.cell?_alloc_old _ z _ (show w.heap.size ≠ w5.heap.size by omega)).trans q1; have q2 : w5.cell? ⟨w.heap.size, m * 3 + 2, none⟩ = some (.int .i64 (a.get m).den) := (hb.cell (p := ⟨w.heap.size, m * 3 + 2, none⟩) (by show w.heap.size < _; first | omega | (simp <;> omega))).trans (b2); have r2 := fun z => (World.cell?_alloc_old _ z _ (show w.heap.size ≠ w5.heap.size by omega)).trans q2; clear ho hb) | (go_at_call 71; (with_reducible refine (sptimes_fr (a.get m) (a.get m) (World.drew (wr.alloc _))).mono ?_); rintro e w5 ho; obtain ⟨rfl, hb⟩ := ho.fn; have HT := Lib.hid ((HT.out.alloc oA oR _).drew.next oA oR hb); have hz5 : wr.heap.size + 1 ≤ w5.heap.size := (by have := hb.size; simpa using this); have q0 : w5.cell? ⟨w.heap.size, m * 3, none⟩ = some (.int .i64 (a.get m).re) := (hb.cell (p := ⟨w.heap.size, m * 3, none⟩) (by show w.heap.size < _; first | omega | (simp <;> omega))).trans (p0 _); have s0 := fun u v x => (far3 (i := 0) (j := 1) (k := 2) (u := u) (v := v) (x := x) (show wr.heap.size ≠ w.heap.size by omega)).trans q0; have q1 : w5.cell? ⟨w.heap.size, m * 3 + 1, none⟩ = some (.int .i64 (a.get m).im) := (hb.cell (p := ⟨w.heap.size, m * 3 + 1, none⟩) (by show w.heap.size < _; first | omega | (simp <;> omega))).trans (p1 _); have s1 := fun u v x => (far3 (i := 0) (j := 1) (k := 2) (u := u) (v := v) (x := x) (show wr.heap.size ≠ w.heap.size by omega)).trans q1; have q2 : w5.cell? ⟨w.heap.size, m * 3 + 2, none⟩ = some (.int .i64 (a.get m).den) := (hb.cell (p := ⟨w.heap.size, m * 3 + 2, none⟩) (by show w.heap.size < _; first | omega | (simp <;> omega))).trans (p2 _); have s2 := fun u v x => (far3 (i := 0) (j := 1) (k := 2) (u := u) (v := v) (x := x) (show wr.heap.size ≠ w.heap.size by omega)).trans q2; have hxB := fun q => hb.cell (p := ⟨wr.heap.size, q, none⟩) (by show wr.heap.size < _; simp); have hxF := fun q => hb.frozen (p := ⟨wr.heap.size, q, none⟩) (by show wr.heap.size < _; simp); have HRX := Lib.hid (Room.below (show Room (World.drew (wr.alloc (.cells #[.int .i64 0, .int .i64 0, .int .i64 0] 23))) wr.heap.size 1 from Room.new' rfl rfl) hb (by simp)); clear ho hb))
          all_goals (clear b0 b1 b2 p0 p1 p2 q0 q1 q2; first | clear r0 r1 r2 | clear s0 s1 s2)
          · obtain ⟨V, hW⟩ : ∃ W, W = w5.alloc (.cells #[.int .i64 (fTimes (a.get m) (a.get m)).1.re, .int .i64 (fTimes (a.get m) (a.get m)).1.im, .int .i64 (fTimes (a.get m) (a.get m)).1.den] 23) := ⟨_, rfl⟩
            have HT : Hid (QRel w (w.heap.size) (w.heap.size + 1) (w.heap.size + 1 + 1) a m V) := by rw [hW]; exact HT.out.alloc oA oR _
            have HXx : Hid (BoxAt V w5.heap.size (fun _ => (fTimes (a.get m) (a.get m)).1) 1) := by rw [hW]; exact BoxAt.new _ _ _ _ _ (src1 (fTimes (a.get m) (a.get m)).1)
            have hzX : w5.heap.size < V.heap.size := by rw [hW]; simp
            rw [← hW]
            clear hW
            have hsV := HT.out.size
            have u0 : V.cell? ⟨w.heap.size + 1 + 1, 0, none⟩ = some (.int .i64 (accQ a m).re) := (HT.out.out 0 (by omega)).1
            have u1 : V.cell? ⟨w.heap.size + 1 + 1, 1, none⟩ = some (.int .i64 (accQ a m).im) := (HT.out.out 0 (by omega)).2.1
            have u2 : V.cell? ⟨w.heap.size + 1 + 1, 2, none⟩ = some (.int .i64 (accQ a m).den) := (HT.out.out 0 (by omega)).2.2
            have x0 : V.cell? ⟨w5.heap.size, 0, none⟩ = some (.int .i64 (fTimes (a.get m) (a.get m)).1.re) := (HXx.out 0 (by omega)).1
            have x1 : V.cell? ⟨w5.heap.size, 1, none⟩ = some (.int .i64 (fTimes (a.get m) (a.get m)).1.im) := (HXx.out 0 (by omega)).2.1
            have x2 : V.cell? ⟨w5.heap.size, 2, none⟩ = some (.int .i64 (fTimes (a.get m) (a.get m)).1.den) := (HXx.out 0 (by omega)).2.2
            go_wp2_with fail
            refine (spadd_fr (accQ a m) (fTimes (a.get m) (a.get m)).1 _).mono ?_
            rintro e w6 ho
            obtain ⟨rfl, hb⟩ := ho.fn
            have HT := Lib.hid (HT.out.next oA oR hb)
            have hz6 : V.heap.size ≤ w6.heap.size := hb.size
            clear ho hb u0 u1 u2 x0 x1 x2 HXx
            have kR3 : w.heap.size + 1 < w6.heap.size := by omega
            have kR : ¬ w.heap.size + 1 = w6.heap.size := by omega
            have kR2 : ¬ w6.heap.size = w.heap.size + 1 := by omega
            have HR := Lib.hid HT.out.res
            have HB := Lib.hid HT.out.below
            clear HT
            obtain ⟨y0, e0⟩ := Option.isSome_iff_exists.1 (HR.out 0 (by omega)).1
            obtain ⟨y1, e1⟩ := Option.isSome_iff_exists.1 (HR.out 1 (by omega)).1
            obtain ⟨y2, e2⟩ := Option.isSome_iff_exists.1 (HR.out 2 (by omega)).1
            have g0 := (HR.out 0 (by omega)).2
            have g1 := (HR.out 1 (by omega)).2
            have g2 := (HR.out 2 (by omega)).2
            go_wp2
            refine bodyPost_ret (v := .tuple #[.agg #[.int .i64 0, .int .i64 0, .int .i64 0], .bool false]) (by simp [results, Tryd.results131, go_sem, *]) rfl (FrOut.no HG.out ?_)
            (repeat' first | (with_reducible exact HB.out) | with_reducible refine setCells_below _ _ _ ?_ (by first | omega | (simp <;> omega)) | with_reducible refine Below.setCell ?_ (by show _ ≤ _; first | omega | (simp <;> omega) | simp) _ | with_reducible refine Below.alloc ?_ (by first | omega | (simp <;> omega)) _ | with_reducible apply Below.drew)
          · obtain ⟨V, hW⟩ : ∃ W, W = ((w5.setCell ⟨wr.heap.size, 0, none⟩ (.int .i64 (fTimes (a.get m) (a.get m)).1.re)).setCell ⟨wr.heap.size, 1, none⟩ (.int .i64 (fTimes (a.get m) (a.get m)).1.im)).setCell ⟨wr.heap.size, 2, none⟩ (.int .i64 (fTimes (a.get m) (a.get m)).1.den) := ⟨_, rfl⟩
            have HT : Hid (QRel w (w.heap.size) (w.heap.size + 1) (w.heap.size + 1 + 1) a m V) := by rw [hW]; exact HT.out.other oA oR (by omega) (by omega) (fTimes (a.get m) (a.get m)).1
            have HXx : Hid (BoxAt V wr.heap.size (fun _ => (fTimes (a.get m) (a.get m)).1) 1) := by rw [hW]; exact BoxAt.put (g := fun _ => (fTimes (a.get m) (a.get m)).1) (k := 0) (fun k hk => absurd hk (by omega)) HRX.out (by omega)
            have hzX : wr.heap.size < V.heap.size := by rw [hW]; simp; omega
            clear hxB hxF HRX
            rw [← hW]
            clear hW
            have hsV := HT.out.size
            have u0 : V.cell? ⟨w.heap.size + 1 + 1, 0, none⟩ = some (.int .i64 (accQ a m).re) := (HT.out.out 0 (by omega)).1
            have u1 : V.cell? ⟨w.heap.size + 1 + 1, 1, none⟩ = some (.int .i64 (accQ a m).im) := (HT.out.out 0 (by omega)).2.1
            have u2 : V.cell? ⟨w.heap.size + 1 + 1, 2, none⟩ = some (.int .i64 (accQ a m).den) := (HT.out.out 0 (by omega)).2.2
            have x0 : V.cell? ⟨wr.heap.size, 0, none⟩ = some (.int .i64 (fTimes (a.get m) (a.get m)).1.re) := (HXx.out 0 (by omega)).1
            have x1 : V.cell? ⟨wr.heap.size, 1, none⟩ = some (.int .i64 (fTimes (a.get m) (a.get m)).1.im) := (HXx.out 0 (by omega)).2.1
            have x2 : V.cell? ⟨wr.heap.size, 2, none⟩ = some (.int .i64 (fTimes (a.get m) (a.get m)).1.den) := (HXx.out 0 (by omega)).2.2
            go_wp2_with fail
            refine (spadd_fr (accQ a m) (fTimes (a.get m) (a.get m)).1 _).mono ?_
            rintro e w6 ho
            obtain ⟨rfl, hb⟩ := ho.fn
            have HT := Lib.hid (HT.out.next oA oR hb)
            have hz6 : V.heap.size ≤ w6.heap.size := hb.size
            clear ho hb u0 u1 u2 x0 x1 x2 HXx
            have kR3 : w.heap.size + 1 < w6.heap.size := by omega
            have kR : ¬ w.heap.size + 1 = w6.heap.size := by omega
            have kR2 : ¬ w6.heap.size = w.heap.size + 1 := by omega
            have HR := Lib.hid HT.out.res
            have HB := Lib.hid HT.out.below
            clear HT
            obtain ⟨y0, e0⟩ := Option.isSome_iff_exists.1 (HR.out 0 (by omega)).1
            obtain ⟨y1, e1⟩ := Option.isSome_iff_exists.1 (HR.out 1 (by omega)).1
            obtain ⟨y2, e2⟩ := Option.isSome_iff_exists.1 (HR.out 2 (by omega)).1
            have g0 := (HR.out 0 (by omega)).2
            have g1 := (HR.out 1 (by omega)).2
            have g2 := (HR.out 2 (by omega)).2
            go_wp2
            refine bodyPost_ret (v := .tuple #[.agg #[.int .i64 0, .int .i64 0, .int .i64 0], .bool false]) (by simp [results, Tryd.results131, go_sem, *]) rfl (FrOut.no HG.out ?_)
            (repeat' first | (with_reducible exact HB.out) | with_reducible refine setCells_below _ _ _ ?_ (by first | omega | (simp <;> omega)) | with_reducible refine Below.setCell ?_ (by show _ ≤ _; first | omega | (simp <;> omega) | simp) _ | with_reducible refine Below.alloc ?_ (by first | omega | (simp <;> omega)) _ | with_reducible apply Below.drew)
        · cases hq : (fAdd (accQ a m) (fTimes (a.get m) (a.get m)).1).2
          · have hp0 := hp
            have HG : Hid (sSq a = (fz, false)) := sSq_badm HT.out.lo h4 HT.out.good (Or.inr hq)
            clear hp0
            have hs := HT.out.size
            have oA : w.heap.size < w.heap.size + 1 + 1 := by omega
            have oR : w.heap.size + 1 < w.heap.size + 1 + 1 := by omega
            have c0 : wr.cell? ⟨w.heap.size, m * 3, none⟩ = some (.int .i64 (a.get m).re) := (HT.out.one m h4).1
            have c1 : wr.cell? ⟨w.heap.size, m * 3 + 1, none⟩ = some (.int .i64 (a.get m).im) := (HT.out.one m h4).2.1
            have c2 : wr.cell? ⟨w.heap.size, m * 3 + 2, none⟩ = some (.int .i64 (a.get m).den) := (HT.out.one m h4).2.2
            have b0 : wr.drew.cell? ⟨w.heap.size, m * 3, none⟩ = some (.int .i64 (a.get m).re) := c0
            have p0 : ∀ z, (wr.alloc z).drew.cell? ⟨w.heap.size, m * 3, none⟩ = some (.int .i64 (a.get m).re) := fun z => (World.cell?_alloc_old _ _ _ (show w.heap.size ≠ wr.heap.size by omega)).trans c0
            have b1 : wr.drew.cell? ⟨w.heap.size, m * 3 + 1, none⟩ = some (.int .i64 (a.get m).im) := c1
            have p1 : ∀ z, (wr.alloc z).drew.cell? ⟨w.heap.size, m * 3 + 1, none⟩ = some (.int .i64 (a.get m).im) := fun z => (World.cell?_alloc_old _ _ _ (show w.heap.size ≠ wr.heap.size by omega)).trans c1
            have b2 : wr.drew.cell? ⟨w.heap.size, m * 3 + 2, none⟩ = some (.int .i64 (a.get m).den) := c2
            have p2 : ∀ z, (wr.alloc z).drew.cell? ⟨w.heap.size, m * 3 + 2, none⟩ = some (.int .i64 (a.get m).den) := fun z => (World.cell?_alloc_old _ _ _ (show w.heap.size ≠ wr.heap.size by omega)).trans c2
            clear c0 c1 c2
            go_wp2
            go_region_held3 (fun w' => w'.cell? ⟨w.heap.size, m * 3, none⟩ = some (.int .i64 (a.get m).re) ∧ w'.cell? ⟨w.heap.size, m * 3 + 1, none⟩ = some (.int .i64 (a.get m).im) ∧ w'.cell? ⟨w.heap.size, m * 3 + 2, none⟩ = some (.int .i64 (a.get m).den)) (((try dsimp only); (first | (with_reducible exact ⟨b0, b1, b2⟩) | (with_reducible exact ⟨p0 _, p1 _, p2 _⟩) | (with_reducible exact ⟨q0, q1, q2⟩) | (with_reducible exact ⟨r0 _, r1 _, r2 _⟩) | (with_reducible exact ⟨s0 _ _ _, s1 _ _ _, s2 _ _ _⟩)))) (first | (go_at_call 71; (with_reducible refine (sptimes_fr (a.get m) (a.get m) wr.drew).mono ?_); rintro e w5 ho; obtain ⟨rfl, hb⟩ := ho.fn; have HT := Lib.hid (HT.out.drew.next oA oR hb); have hz5 : wr.heap.size ≤ w5.heap.size := (by have := hb.size; simpa using this); have q0 : w5.cell? ⟨w.heap.size, m * 3, none⟩ = some (.int .i64 (a.get m).re) := (hb.cell (p := ⟨w.heap.size, m * 3, none⟩) (by show w.heap.size < _; first | omega | (simp <;> omega))).trans (b0); have r0 := fun z => (World.cell?_alloc_old _ z _ (show w.heap.size ≠ w5.heap.size by omega)).trans q0; have q1 : w5.cell? ⟨w.heap.size, m * 3 + 1, none⟩ = some (.int .i64 (a.get m).im) := (hb.cell (p := ⟨w.heap.size, m * 3 + 1, none⟩) (by show w.heap.size < _; first | omega | (simp <;> omega))).trans (b1); have r1 := fun z => (World.cell?_alloc_old _ z _ (show w.heap.size ≠ w5.heap.size by omega)).trans q1; have q2 : w5.cell? ⟨w.heap.size, m * 3 + 2, none⟩ = some (.int .i64 (a.get m).den) := (hb.cell (p := ⟨w.heap.size, m * 3 + 2, none⟩) (by show w.heap.size < _; first | omega | (simp <;> omega))).trans (b2); have r2 := fun z => (World.cell?_alloc_old _ z _ (show w.heap.size ≠ w5.heap.size by omega)).trans q2; clear ho hb) | (go_at_call 71; (with_reducible refine (sptimes_fr (a.get m) (a.get m) (World.drew (wr.alloc _))).mono ?_); rintro e w5 ho; obtain ⟨rfl, hb⟩ := ho.fn; have HT := Lib.hid ((HT.out.alloc oA oR _).drew.next oA oR hb); have hz5 : wr.heap.size + 1 ≤ w5.heap.size := (by have := hb.size; simpa using this); have q0 : w5.cell? ⟨w.heap.size, m * 3, none⟩ = some (.int .i64 (a.get m).re) := (hb.cell (p := ⟨w.heap.size, m * 3, none⟩) (by show w.heap.size < _; first | omega | (simp <;> omega))).trans (p0 _); have s0 := fun u v x => (far3 (i := 0) (j := 1) (k := 2) (u := u) (v := v) (x := x) (show wr.heap.size ≠ w.heap.size by omega)).trans q0; have q1 : w5.cell? ⟨w.heap.size, m * 3 + 1, none⟩ = some (.int .i64 (a.get m).im) := (hb.cell (p := ⟨w.heap.size, m * 3 + 1, none⟩) (by show w.heap.size < _; first | omega | (simp <;> omega))).trans (p1 _); have s1 := fun u v x => (far3 (i := 0) (j := 1) (k := 2) (u := u) (v := v) (x := x) (show wr.heap.size ≠ w.heap.size by omega)).trans q1; have q2 : w5.cell? ⟨w.heap.size, m * 3 + 2, none⟩ = some (.int .i64 (a.get m).den) := (hb.cell (p := ⟨w.heap.size, m * 3 + 2, none⟩) (by show w.heap.size < _; first | omega | (simp <;> omega))).trans (p2 _); have s2 := fun u v x => (far3 (i := 0) (j := 1) (k := 2) (u := u) (v := v) (x := x) (show wr.heap.size ≠ w.heap.size by omega)).trans q2; have hxB := fun q => hb.cell (p := ⟨wr.heap.size, q, none⟩) (by show wr.heap.size < _; simp); have hxF := fun q => hb.frozen (p := ⟨wr.heap.size, q, none⟩) (by show wr.heap.size < _; simp); have HRX := Lib.hid (Room.below (show Room (World.drew (wr.alloc (.cells #[.int .i64 0, .int .i64 0, .int .i64 0] 23))) wr.heap.size 1 from Room.new' rfl rfl) hb (by simp)); clear ho hb))
            all_goals (clear b0 b1 b2 p0 p1 p2 q0 q1 q2; first | clear r0 r1 r2 | clear s0 s1 s2)
            · obtain ⟨V, hW⟩ : ∃ W, W = w5.alloc (.cells #[.int .i64 (fTimes (a.get m) (a.get m)).1.re, .int .i64 (fTimes (a.get m) (a.get m)).1.im, .int .i64 (fTimes (a.get m) (a.get m)).1.den] 23) := ⟨_, rfl⟩
              have HT : Hid (QRel w (w.heap.size) (w.heap.size + 1) (w.heap.size + 1 + 1) a m V) := by rw [hW]; exact HT.out.alloc oA oR _
              have HXx : Hid (BoxAt V w5.heap.size (fun _ => (fTimes (a.get m) (a.get m)).1) 1) := by rw [hW]; exact BoxAt.new _ _ _ _ _ (src1 (fTimes (a.get m) (a.get m)).1)
              have hzX : w5.heap.size < V.heap.size := by rw [hW]; simp
              rw [← hW]
              clear hW
              have hsV := HT.out.size
              have u0 : V.cell? ⟨w.heap.size + 1 + 1, 0, none⟩ = some (.int .i64 (accQ a m).re) := (HT.out.out 0 (by omega)).1
              have u1 : V.cell? ⟨w.heap.size + 1 + 1, 1, none⟩ = some (.int .i64 (accQ a m).im) := (HT.out.out 0 (by omega)).2.1
              have u2 : V.cell? ⟨w.heap.size + 1 + 1, 2, none⟩ = some (.int .i64 (accQ a m).den) := (HT.out.out 0 (by omega)).2.2
              have x0 : V.cell? ⟨w5.heap.size, 0, none⟩ = some (.int .i64 (fTimes (a.get m) (a.get m)).1.re) := (HXx.out 0 (by omega)).1
              have x1 : V.cell? ⟨w5.heap.size, 1, none⟩ = some (.int .i64 (fTimes (a.get m) (a.get m)).1.im) := (HXx.out 0 (by omega)).2.1
              have x2 : V.cell? ⟨w5.heap.size, 2, none⟩ = some (.int .i64 (fTimes (a.get m) (a.get m)).1.den) := (HXx.out 0 (by omega)).2.2
              go_wp2_with fail
              refine (spadd_fr (accQ a m) (fTimes (a.get m) (a.get m)).1 _).mono ?_
              rintro e w6 ho
              obtain ⟨rfl, hb⟩ := ho.fn
              have HT := Lib.hid (HT.out.next oA oR hb)
              have hz6 : V.heap.size ≤ w6.heap.size := hb.size
              clear ho hb u0 u1 u2 x0 x1 x2 HXx
              have kR3 : w.heap.size + 1 < w6.heap.size := by omega
              have kR : ¬ w.heap.size + 1 = w6.heap.size := by omega
              have kR2 : ¬ w6.heap.size = w.heap.size + 1 := by omega
              have HR := Lib.hid HT.out.res
              have HB := Lib.hid HT.out.below
              clear HT
              obtain ⟨y0, e0⟩ := Option.isSome_iff_exists.1 (HR.out 0 (by omega)).1
              obtain ⟨y1, e1⟩ := Option.isSome_iff_exists.1 (HR.out 1 (by omega)).1
              obtain ⟨y2, e2⟩ := Option.isSome_iff_exists.1 (HR.out 2 (by omega)).1
              have g0 := (HR.out 0 (by omega)).2
              have g1 := (HR.out 1 (by omega)).2
              have g2 := (HR.out 2 (by omega)).2
              go_wp2
              refine bodyPost_ret (v := .tuple #[.agg #[.int .i64 0, .int .i64 0, .int .i64 0], .bool false]) (by simp [results, Tryd.results131, go_sem, *]) rfl (FrOut.no HG.out ?_)
              (repeat' first | (with_reducible exact HB.out) | with_reducible refine setCells_below _ _ _ ?_ (by first | omega | (simp <;> omega)) | with_reducible refine Below.setCell ?_ (by show _ ≤ _; first | omega | (simp <;> omega) | simp) _ | with_reducible refine Below.alloc ?_ (by first | omega | (simp <;> omega)) _ | with_reducible apply Below.drew)
            · obtain ⟨V, hW⟩ : ∃ W, W = ((w5.setCell ⟨wr.heap.size, 0, none⟩ (.int .i64 (fTimes (a.get m) (a.get m)).1.re)).setCell ⟨wr.heap.size, 1, none⟩ (.int .i64 (fTimes (a.get m) (a.get m)).1.im)).setCell ⟨wr.heap.size, 2, none⟩ (.int .i64 (fTimes (a.get m) (a.get m)).1.den) := ⟨_, rfl⟩
              have HT : Hid (QRel w (w.heap.size) (w.heap.size + 1) (w.heap.size + 1 + 1) a m V) := by rw [hW]; exact HT.out.other oA oR (by omega) (by omega) (fTimes (a.get m) (a.get m)).1
              have HXx : Hid (BoxAt V wr.heap.size (fun _ => (fTimes (a.get m) (a.get m)).1) 1) := by rw [hW]; exact BoxAt.put (g := fun _ => (fTimes (a.get m) (a.get m)).1) (k := 0) (fun k hk => absurd hk (by omega)) HRX.out (by omega)
              have hzX : wr.heap.size < V.heap.size := by rw [hW]; simp; omega
              clear hxB hxF HRX
              rw [← hW]
              clear hW
              have hsV := HT.out.size
              have u0 : V.cell? ⟨w.heap.size + 1 + 1, 0, none⟩ = some (.int .i64 (accQ a m).re) := (HT.out.out 0 (by omega)).1
              have u1 : V.cell? ⟨w.heap.size + 1 + 1, 1, none⟩ = some (.int .i64 (accQ a m).im) := (HT.out.out 0 (by omega)).2.1
              have u2 : V.cell? ⟨w.heap.size + 1 + 1, 2, none⟩ = some (.int .i64 (accQ a m).den) := (HT.out.out 0 (by omega)).2.2
              have x0 : V.cell? ⟨wr.heap.size, 0, none⟩ = some (.int .i64 (fTimes (a.get m) (a.get m)).1.re) := (HXx.out 0 (by omega)).1
              have x1 : V.cell? ⟨wr.heap.size, 1, none⟩ = some (.int .i64 (fTimes (a.get m) (a.get m)).1.im) := (HXx.out 0 (by omega)).2.1
              have x2 : V.cell? ⟨wr.heap.size, 2, none⟩ = some (.int .i64 (fTimes (a.get m) (a.get m)).1.den) := (HXx.out 0 (by omega)).2.2
              go_wp2_with fail
              refine (spadd_fr (accQ a m) (fTimes (a.get m) (a.get m)).1 _).mono ?_
              rintro e w6 ho
              obtain ⟨rfl, hb⟩ := ho.fn
              have HT := Lib.hid (HT.out.next oA oR hb)
              have hz6 : V.heap.size ≤ w6.heap.size := hb.size
              clear ho hb u0 u1 u2 x0 x1 x2 HXx
              have kR3 : w.heap.size + 1 < w6.heap.size := by omega
              have kR : ¬ w.heap.size + 1 = w6.heap.size := by omega
              have kR2 : ¬ w6.heap.size = w.heap.size + 1 := by omega
              have HR := Lib.hid HT.out.res
              have HB := Lib.hid HT.out.below
              clear HT
              obtain ⟨y0, e0⟩ := Option.isSome_iff_exists.1 (HR.out 0 (by omega)).1
              obtain ⟨y1, e1⟩ := Option.isSome_iff_exists.1 (HR.out 1 (by omega)).1
              obtain ⟨y2, e2⟩ := Option.isSome_iff_exists.1 (HR.out 2 (by omega)).1
              have g0 := (HR.out 0 (by omega)).2
              have g1 := (HR.out 1 (by omega)).2
              have g2 := (HR.out 2 (by omega)).2
              go_wp2
              refine bodyPost_ret (v := .tuple #[.agg #[.int .i64 0, .int .i64 0, .int .i64 0], .bool false]) (by simp [results, Tryd.results131, go_sem, *]) rfl (FrOut.no HG.out ?_)
              (repeat' first | (with_reducible exact HB.out) | with_reducible refine setCells_below _ _ _ ?_ (by first | omega | (simp <;> omega)) | with_reducible refine Below.setCell ?_ (by show _ ≤ _; first | omega | (simp <;> omega) | simp) _ | with_reducible refine Below.alloc ?_ (by first | omega | (simp <;> omega)) _ | with_reducible apply Below.drew)
          · have HP : Hid ((tQ a m).2 = true) := hp
            have HQ : Hid ((nQ a m).2 = true) := hq
            have hs := HT.out.size
            have oA : w.heap.size < w.heap.size + 1 + 1 := by omega
            have oR : w.heap.size + 1 < w.heap.size + 1 + 1 := by omega
            have c0 : wr.cell? ⟨w.heap.size, m * 3, none⟩ = some (.int .i64 (a.get m).re) := (HT.out.one m h4).1
            have c1 : wr.cell? ⟨w.heap.size, m * 3 + 1, none⟩ = some (.int .i64 (a.get m).im) := (HT.out.one m h4).2.1
            have c2 : wr.cell? ⟨w.heap.size, m * 3 + 2, none⟩ = some (.int .i64 (a.get m).den) := (HT.out.one m h4).2.2
            have b0 : wr.drew.cell? ⟨w.heap.size, m * 3, none⟩ = some (.int .i64 (a.get m).re) := c0
            have p0 : ∀ z, (wr.alloc z).drew.cell? ⟨w.heap.size, m * 3, none⟩ = some (.int .i64 (a.get m).re) := fun z => (World.cell?_alloc_old _ _ _ (show w.heap.size ≠ wr.heap.size by omega)).trans c0
            have b1 : wr.drew.cell? ⟨w.heap.size, m * 3 + 1, none⟩ = some (.int .i64 (a.get m).im) := c1
            have p1 : ∀ z, (wr.alloc z).drew.cell? ⟨w.heap.size, m * 3 + 1, none⟩ = some (.int .i64 (a.get m).im) := fun z => (World.cell?_alloc_old _ _ _ (show w.heap.size ≠ wr.heap.size by omega)).trans c1
            have b2 : wr.drew.cell? ⟨w.heap.size, m * 3 + 2, none⟩ = some (.int .i64 (a.get m).den) := c2
            have p2 : ∀ z, (wr.alloc z).drew.cell? ⟨w.heap.size, m * 3 + 2, none⟩ = some (.int .i64 (a.get m).den) := fun z => (World.cell?_alloc_old _ _ _ (show w.heap.size ≠ wr.heap.size by omega)).trans c2
            clear c0 c1 c2
            go_wp2
            go_region_held3 (fun w' => w'.cell? ⟨w.heap.size, m * 3, none⟩ = some (.int .i64 (a.get m).re) ∧ w'.cell? ⟨w.heap.size, m * 3 + 1, none⟩ = some (.int .i64 (a.get m).im) ∧ w'.cell? ⟨w.heap.size, m * 3 + 2, none⟩ = some (.int .i64 (a.get m).den)) (((try dsimp only); (first | (with_reducible exact ⟨b0, b1, b2⟩) | (with_reducible exact ⟨p0 _, p1 _, p2 _⟩) | (with_reducible exact ⟨q0, q1, q2⟩) | (with_reducible exact ⟨r0 _, r1 _, r2 _⟩) | (with_reducible exact ⟨s0 _ _ _, s1 _ _ _, s2 _ _ _⟩)))) (first | (go_at_call 71; (with_reducible refine (sptimes_fr (a.get m) (a.get m) wr.drew).mono ?_); rintro e w5 ho; obtain ⟨rfl, hb⟩ := ho.fn; have HT := Lib.hid (HT.out.drew.next oA oR hb); have hz5 : wr.heap.size ≤ w5.heap.size := (by have := hb.size; simpa using this); have q0 : w5.cell? ⟨w.heap.size, m * 3, none⟩ = some (.int .i64 (a.get m).re) := (hb.cell (p := ⟨w.heap.size, m * 3, none⟩) (by show w.heap.size < _; first | omega | (simp <;> omega))).trans (b0); have r0 := fun z => (World.cell?_alloc_old _ z _ (show w.heap.size ≠ w5.heap.size by omega)).trans q0; have q1 : w5.cell? ⟨w.heap.size, m * 3 + 1, none⟩ = some (.int .i64 (a.get m).im) := (hb.cell (p := ⟨w.heap.size, m * 3 + 1, none⟩) (by show w.heap.size < _; first | omega | (simp <;> omega))).trans (b1); have r1 := fun z => (World.cell?_alloc_old _ z _ (show w.heap.size ≠ w5.heap.size by omega)).trans q1; have q2 : w5.cell? ⟨w.heap.size, m * 3 + 2, none⟩ = some (.int .i64 (a.get m).den) := (hb.cell (p := ⟨w.heap.size, m * 3 + 2, none⟩) (by show w.heap.size < _; first | omega | (simp <;> omega))).trans (b2); have r2 := fun z => (World.cell?_alloc_old _ z _ (show w.heap.size ≠ w5.heap.size by omega)).trans q2; clear ho hb) | (go_at_call 71; (with_reducible refine (sptimes_fr (a.get m) (a.get m) (World.drew (wr.alloc _))).mono ?_); rintro e w5 ho; obtain ⟨rfl, hb⟩ := ho.fn; have HT := Lib.hid ((HT.out.alloc oA oR _).drew.next oA oR hb); have hz5 : wr.heap.size + 1 ≤ w5.heap.size := (by have := hb.size; simpa using this); have q0 : w5.cell? ⟨w.heap.size, m * 3, none⟩ = some (.int .i64 (a.get m).re) := (hb.cell (p := ⟨w.heap.size, m * 3, none⟩) (by show w.heap.size < _; first | omega | (simp <;> omega))).trans (p0 _); have s0 := fun u v x => (far3 (i := 0) (j := 1) (k := 2) (u := u) (v := v) (x := x) (show wr.heap.size ≠ w.heap.size by omega)).trans q0; have q1 : w5.cell? ⟨w.heap.size, m * 3 + 1, none⟩ = some (.int .i64 (a.get m).im) := (hb.cell (p := ⟨w.heap.size, m * 3 + 1, none⟩) (by show w.heap.size < _; first | omega | (simp <;> omega))).trans (p1 _); have s1 := fun u v x => (far3 (i := 0) (j := 1) (k := 2) (u := u) (v := v) (x := x) (show wr.heap.size ≠ w.heap.size by omega)).trans q1; have q2 : w5.cell? ⟨w.heap.size, m * 3 + 2, none⟩ = some (.int .i64 (a.get m).den) := (hb.cell (p := ⟨w.heap.size, m * 3 + 2, none⟩) (by show w.heap.size < _; first | omega | (simp <;> omega))).trans (p2 _); have s2 := fun u v x => (far3 (i := 0) (j := 1) (k := 2) (u := u) (v := v) (x := x) (show wr.heap.size ≠ w.heap.size by omega)).trans q2; have hxB := fun q => hb.cell (p := ⟨wr.heap.size, q, none⟩) (by show wr.heap.size < _; simp); have hxF := fun q => hb.frozen (p := ⟨wr.heap.size, q, none⟩) (by show wr.heap.size < _; simp); have HRX := Lib.hid (Room.below (show Room (World.drew (wr.alloc (.cells #[.int .i64 0, .int .i64 0, .int .i64 0] 23))) wr.heap.size 1 from Room.new' rfl rfl) hb (by simp)); clear ho hb))
            all_goals (clear b0 b1 b2 p0 p1 p2 q0 q1 q2; first | clear r0 r1 r2 | clear s0 s1 s2)
            · obtain ⟨V, hW⟩ : ∃ W, W = w5.alloc (.cells #[.int .i64 (fTimes (a.get m) (a.get m)).1.re, .int .i64 (fTimes (a.get m) (a.get m)).1.im, .int .i64 (fTimes (a.get m) (a.get m)).1.den] 23) := ⟨_, rfl⟩
              have HT : Hid (QRel w (w.heap.size) (w.heap.size + 1) (w.heap.size + 1 + 1) a m V) := by rw [hW]; exact HT.out.alloc oA oR _
              have HXx : Hid (BoxAt V w5.heap.size (fun _ => (fTimes (a.get m) (a.get m)).1) 1) := by rw [hW]; exact BoxAt.new _ _ _ _ _ (src1 (fTimes (a.get m) (a.get m)).1)
              have hzX : w5.heap.size < V.heap.size := by rw [hW]; simp
              rw [← hW]
              clear hW
              have hsV := HT.out.size
              have u0 : V.cell? ⟨w.heap.size + 1 + 1, 0, none⟩ = some (.int .i64 (accQ a m).re) := (HT.out.out 0 (by omega)).1
              have u1 : V.cell? ⟨w.heap.size + 1 + 1, 1, none⟩ = some (.int .i64 (accQ a m).im) := (HT.out.out 0 (by omega)).2.1
              have u2 : V.cell? ⟨w.heap.size + 1 + 1, 2, none⟩ = some (.int .i64 (accQ a m).den) := (HT.out.out 0 (by omega)).2.2
              have x0 : V.cell? ⟨w5.heap.size, 0, none⟩ = some (.int .i64 (fTimes (a.get m) (a.get m)).1.re) := (HXx.out 0 (by omega)).1
              have x1 : V.cell? ⟨w5.heap.size, 1, none⟩ = some (.int .i64 (fTimes (a.get m) (a.get m)).1.im) := (HXx.out 0 (by omega)).2.1
              have x2 : V.cell? ⟨w5.heap.size, 2, none⟩ = some (.int .i64 (fTimes (a.get m) (a.get m)).1.den) := (HXx.out 0 (by omega)).2.2
              go_wp2_with fail
              refine (spadd_fr (accQ a m) (fTimes (a.get m) (a.get m)).1 _).mono ?_
              rintro e w6 ho
              obtain ⟨rfl, hb⟩ := ho.fn
              have HT := Lib.hid (HT.out.next oA oR hb)
              have hz6 : V.heap.size ≤ w6.heap.size := hb.size
              clear ho hb u0 u1 u2 x0 x1 x2 HXx
              have HU := Lib.hid ((HT.out.put oA oR (by omega) h4 HP.out HQ.out).alloc oA oR (.cells #[.int .i64 (fAdd (accQ a m) (fTimes (a.get m) (a.get m)).1).1.re, .int .i64 (fAdd (accQ a m) (fTimes (a.get m) (a.get m)).1).1.im, .int .i64 (fAdd (accQ a m) (fTimes (a.get m) (a.get m)).1).1.den] 23))
              have hR := HT.out.room
              obtain ⟨v0, e0⟩ := Option.isSome_iff_exists.1 (hR 0 (by omega)).1
              obtain ⟨v1, e1⟩ := Option.isSome_iff_exists.1 (hR 1 (by omega)).1
              obtain ⟨v2, e2⟩ := Option.isSome_iff_exists.1 (hR 2 (by omega)).1
              have f0 := (hR 0 (by omega)).2
              have f1 := (hR 1 (by omega)).2
              have f2 := (hR 2 (by omega)).2
              have kx : ¬ w.heap.size + 1 + 1 = w6.heap.size := by omega
              have ky : w.heap.size + 1 + 1 < w6.heap.size := by omega
              clear hR HT
              go_wp2
              go_roundw
              case rel => exact ⟨m + 1, by go_num, HU.out⟩
              case measure => simp [intOf]; omega
            · obtain ⟨V, hW⟩ : ∃ W, W = ((w5.setCell ⟨wr.heap.size, 0, none⟩ (.int .i64 (fTimes (a.get m) (a.get m)).1.re)).setCell ⟨wr.heap.size, 1, none⟩ (.int .i64 (fTimes (a.get m) (a.get m)).1.im)).setCell ⟨wr.heap.size, 2, none⟩ (.int .i64 (fTimes (a.get m) (a.get m)).1.den) := ⟨_, rfl⟩
              have HT : Hid (QRel w (w.heap.size) (w.heap.size + 1) (w.heap.size + 1 + 1) a m V) := by rw [hW]; exact HT.out.other oA oR (by omega) (by omega) (fTimes (a.get m) (a.get m)).1
              have HXx : Hid (BoxAt V wr.heap.size (fun _ => (fTimes (a.get m) (a.get m)).1) 1) := by rw [hW]; exact BoxAt.put (g := fun _ => (fTimes (a.get m) (a.get m)).1) (k := 0) (fun k hk => absurd hk (by omega)) HRX.out (by omega)
              have hzX : wr.heap.size < V.heap.size := by rw [hW]; simp; omega
              clear hxB hxF HRX
              rw [← hW]
              clear hW
              have hsV := HT.out.size
              have u0 : V.cell? ⟨w.heap.size + 1 + 1, 0, none⟩ = some (.int .i64 (accQ a m).re) := (HT.out.out 0 (by omega)).1
              have u1 : V.cell? ⟨w.heap.size + 1 + 1, 1, none⟩ = some (.int .i64 (accQ a m).im) := (HT.out.out 0 (by omega)).2.1
              have u2 : V.cell? ⟨w.heap.size + 1 + 1, 2, none⟩ = some (.int .i64 (accQ a m).den) := (HT.out.out 0 (by omega)).2.2
              have x0 : V.cell? ⟨wr.heap.size, 0, none⟩ = some (.int .i64 (fTimes (a.get m) (a.get m)).1.re) := (HXx.out 0 (by omega)).1
              have x1 : V.cell? ⟨wr.heap.size, 1, none⟩ = some (.int .i64 (fTimes (a.get m) (a.get m)).1.im) := (HXx.out 0 (by omega)).2.1
              have x2 : V.cell? ⟨wr.heap.size, 2, none⟩ = some (.int .i64 (fTimes (a.get m) (a.get m)).1.den) := (HXx.out 0 (by omega)).2.2
              go_wp2_with fail
              refine (spadd_fr (accQ a m) (fTimes (a.get m) (a.get m)).1 _).mono ?_
              rintro e w6 ho
              obtain ⟨rfl, hb⟩ := ho.fn
              have HT := Lib.hid (HT.out.next oA oR hb)
              have hz6 : V.heap.size ≤ w6.heap.size := hb.size
              clear ho hb u0 u1 u2 x0 x1 x2 HXx
              have HU := Lib.hid ((HT.out.put oA oR (by omega) h4 HP.out HQ.out).alloc oA oR (.cells #[.int .i64 (fAdd (accQ a m) (fTimes (a.get m) (a.get m)).1).1.re, .int .i64 (fAdd (accQ a m) (fTimes (a.get m) (a.get m)).1).1.im, .int .i64 (fAdd (accQ a m) (fTimes (a.get m) (a.get m)).1).1.den] 23))
              have hR := HT.out.room
              obtain ⟨v0, e0⟩ := Option.isSome_iff_exists.1 (hR 0 (by omega)).1
              obtain ⟨v1, e1⟩ := Option.isSome_iff_exists.1 (hR 1 (by omega)).1
              obtain ⟨v2, e2⟩ := Option.isSome_iff_exists.1 (hR 2 (by omega)).1
              have f0 := (hR 0 (by omega)).2
              have f1 := (hR 1 (by omega)).2
              have f2 := (hR 2 (by omega)).2
              have kx : ¬ w.heap.size + 1 + 1 = w6.heap.size := by omega
              have ky : w.heap.size + 1 + 1 < w6.heap.size := by omega
              clear hR HT
              go_wp2
              go_roundw
              case rel => exact ⟨m + 1, by go_num, HU.out⟩
              case measure => simp [intOf]; omega
      · obtain rfl : m = 4 := by have := hT.le; omega
        have HG : Hid (sSq a = (accQ a 4, true)) := sSq_all HV.out hT.good
        have HR := Lib.hid hT.res
        have HB := Lib.hid hT.below
        have hs := hT.size
        have u0 : wr.cell? ⟨w.heap.size + 1 + 1, 0, none⟩ = some (.int .i64 (accQ a 4).re) := (hT.out 0 (by omega)).1
        have u1 : wr.cell? ⟨w.heap.size + 1 + 1, 1, none⟩ = some (.int .i64 (accQ a 4).im) := (hT.out 0 (by omega)).2.1
        have u2 : wr.cell? ⟨w.heap.size + 1 + 1, 2, none⟩ = some (.int .i64 (accQ a 4).den) := (hT.out 0 (by omega)).2.2
        obtain ⟨y0, e0⟩ := Option.isSome_iff_exists.1 (HR.out 0 (by omega)).1
        obtain ⟨y1, e1⟩ := Option.isSome_iff_exists.1 (HR.out 1 (by omega)).1
        obtain ⟨y2, e2⟩ := Option.isSome_iff_exists.1 (HR.out 2 (by omega)).1
        have g0 := (HR.out 0 (by omega)).2
        have g1 := (HR.out 1 (by omega)).2
        have g2 := (HR.out 2 (by omega)).2
        clear hT
        go_wp2
        refine bodyPost_ret (v := .tuple #[.agg #[.int .i64 (accQ a 4).re, .int .i64 (accQ a 4).im, .int .i64 (accQ a 4).den], .bool true]) (by simp [results, Tryd.results131, go_sem, e0, e1, e2]) rfl (FrOut.yes (f := accQ a 4) (by rw [HG.out]) (by rw [HG.out]) ?_)
        (repeat' first | (with_reducible exact HB.out) | with_reducible refine setCells_below _ _ _ ?_ (by first | omega | (simp <;> omega)) | with_reducible refine Below.setCell ?_ (by show _ ≤ _; first | omega | (simp <;> omega) | simp) _ | with_reducible refine Below.alloc ?_ (by first | omega | (simp <;> omega)) _ | with_reducible apply Below.drew)
end Go.Proofs.YtmcokdiopcpifaaDoor
