/- Contracts: rotators and filters. -/
import Derived.Test.YtmcokdiopcpifaaDoorMsX
import Derived.Test.YtmcokdiopcpifaaDoorMsG3
import Derived.Test.YtmcokdiopcpifaaDoorMsN
import Derived.Test.YtmcokdiopcpifaaDoorMsJ
import Derived.Test.YtmcokdiopcpifaaDoorMsG7
import Derived.Test.YtmcokdiopcpifaaDoorMsK
import Derived.Deep.RegionLaw
import Derived.Deep.DeepCutAuto
set_option maxRecDepth 100000
namespace Go.Proofs.YtmcokdiopcpifaaDoor
open Go.RowKit Pol
theorem DirOut.f {p q : Int} {w w' : World} {e : Ending} (h : DirOut p q w e w') (hd : dirB p q = false) : e = .returned (.tuple #[.agg #[.int .i64 0, .int .i64 0, .int .i64 0], .agg #[.int .i64 0, .int .i64 0, .int .i64 0], .bool false]) ∧ Below w.heap.size w w' := ⟨by rw [h.1, if_neg (by rw [hd]; simp)], h.2⟩
theorem DirOut.t {p q : Int} {w w' : World} {e : Ending} (h : DirOut p q w e w') (hd : dirB p q = true) : e = .returned (.tuple #[.agg #[.int .i64 (dC p q).re, .int .i64 (dC p q).im, .int .i64 (dC p q).den], .agg #[.int .i64 (dS p q).re, .int .i64 (dS p q).im, .int .i64 (dS p q).den], .bool true]) ∧ Below w.heap.size w w' := ⟨by rw [h.1, if_pos hd], h.2⟩
theorem M4Out.self {g : M4 × Bool} {w w' : World} (hb : Below w.heap.size w w') : M4Out g w (.returned (.tuple #[.agg #[.int .i64 g.1.a.re, .int .i64 g.1.a.im, .int .i64 g.1.a.den, .int .i64 g.1.b.re, .int .i64 g.1.b.im, .int .i64 g.1.b.den, .int .i64 g.1.c.re, .int .i64 g.1.c.im, .int .i64 g.1.c.den, .int .i64 g.1.d.re, .int .i64 g.1.d.im, .int .i64 g.1.d.den], .bool g.2])) w' := ⟨rfl, hb⟩
theorem Room.drew {w : World} {N n : Nat} (h : Room w N n) : Room w.drew N n := h
def gRot (p q : Int) : M4 × Bool := if dirB p q = true then (⟨dC p q, (⟨-(dS p q).re, (dS p q).im, (dS p q).den⟩ : Fr), dS p q, dC p q⟩, true) else (m4z, false)
theorem dS_im (p q : Int) : (dS p q).im = 0 := low_im0 _ _
theorem dS_bd (p q : Int) : -2000000000 ≤ (dS p q).re ∧ (dS p q).re ≤ 2000000000 := low_bd _ _ _
set_option maxRecDepth 100000 in
set_option maxHeartbeats 4000000 in
theorem srot_any (p q : Int) (w : World) :
    Calls Tryd.prog 105 #[.int .i64 p, .int .i64 q] w (M4Out (gRot p q) w) := by
  cases hd : dirB p q
  · have HD := Lib.hid hd
    have HG : Hid (gRot p q = g4 ⟨0, 0, 0⟩ ⟨0, 0, 0⟩ ⟨0, 0, 0⟩ ⟨0, 0, 0⟩ false) := by show _ = _; unfold gRot g4; rw [if_neg (by rw [hd]; simp)]; rfl
    clear hd
    go_enter Tryd.func105, Tryd.ntmps105
    go_wp2_with fail
    refine (sdir_any p q _).mono ?_
    rintro e w1 ho
    obtain ⟨rfl, hb⟩ := ho.f HD.out
    have kc0 := fun o => hb.cell (p := ⟨w.heap.size, o, none⟩) (by show w.heap.size < _; first | omega | (simp <;> omega))
    have kf0 := fun o => hb.frozen (p := ⟨w.heap.size, o, none⟩) (by show w.heap.size < _; first | omega | (simp <;> omega))
    have hz := hb.size
    simp at hz
    have kl0 : w.heap.size < w1.heap.size := by omega
    have kn0 : ¬ w.heap.size = w1.heap.size := by omega
    have kn1 : ¬ w.heap.size = w1.heap.size + 1 := by omega
    have kn2 : ¬ w.heap.size = w1.heap.size + 1 + 1 := by omega
    have kn3 : ¬ w.heap.size = w1.heap.size + 2 := by omega
    have HR := Lib.hid (show Room w1 w.heap.size 4 from Room.below (Room.new' rfl rfl) hb (by simp))
    have HB := Lib.hid (show Below w.heap.size w w1 from by (repeat' first | exact Below.refl _ _ | apply bl_alloc | apply bl_drewN | apply bl_drew | refine bl_trans ?_ (by assumption) | refine bl_set ?_ (by first | omega | (simp <;> omega)) _))
    clear ho hb
    go_wp2_with fail
    with_reducible refine (l5Four_any ⟨0, 0, 0⟩ ⟨0, 0, 0⟩ ⟨0, 0, 0⟩ ⟨0, 0, 0⟩ false _).mono ?_
    rintro e w2 ho
    rw [← HG.out] at ho
    obtain ⟨rfl, hb⟩ := ho.fn
    have hb3 : Below w1.heap.size w1 w2 := Below.trans ((((Below.refl _ _).alloc (by omega) _).alloc (by simp) _).alloc (by simp <;> omega) _) (hb.mono (by simp <;> omega))
    have kr := fun o => hb3.cell (p := ⟨w.heap.size, o, none⟩) kl0
    have krf := fun o => hb3.frozen (p := ⟨w.heap.size, o, none⟩) kl0
    have HR := Lib.hid (HR.out.below hb3 kl0)
    have HB := Lib.hid (show Below w.heap.size w w2 from HB.out.trans (hb3.mono HB.out.size))
    clear hb3
    clear ho hb
    go_wp2
    refine bodyPost_ret (v := .tuple #[.agg #[.int .i64 (gRot p q).1.a.re, .int .i64 (gRot p q).1.a.im, .int .i64 (gRot p q).1.a.den, .int .i64 (gRot p q).1.b.re, .int .i64 (gRot p q).1.b.im, .int .i64 (gRot p q).1.b.den, .int .i64 (gRot p q).1.c.re, .int .i64 (gRot p q).1.c.im, .int .i64 (gRot p q).1.c.den, .int .i64 (gRot p q).1.d.re, .int .i64 (gRot p q).1.d.im, .int .i64 (gRot p q).1.d.den], .bool (gRot p q).2]) ?_ rfl (M4Out.self ?_)
    · exact Eq.trans (results_cell_mid2 Tryd.results105 _ _ w.heap.size [.int .i64 (gRot p q).1.a.re, .int .i64 (gRot p q).1.a.im, .int .i64 (gRot p q).1.a.den, .int .i64 (gRot p q).1.b.re, .int .i64 (gRot p q).1.b.im, .int .i64 (gRot p q).1.b.den, .int .i64 (gRot p q).1.c.re, .int .i64 (gRot p q).1.c.im, .int .i64 (gRot p q).1.c.den, .int .i64 (gRot p q).1.d.re, .int .i64 (gRot p q).1.d.im, .int .i64 (gRot p q).1.d.den] _ (by rfl) (by ((repeat' first | (with_reducible refine World.rangeAt_setCells_same _ (w.heap.size) 0 [.int .i64 (gRot p q).1.a.re, .int .i64 (gRot p q).1.a.im, .int .i64 (gRot p q).1.a.den, .int .i64 (gRot p q).1.b.re, .int .i64 (gRot p q).1.b.im, .int .i64 (gRot p q).1.b.den, .int .i64 (gRot p q).1.c.re, .int .i64 (gRot p q).1.c.im, .int .i64 (gRot p q).1.c.den, .int .i64 (gRot p q).1.d.re, .int .i64 (gRot p q).1.d.im, .int .i64 (gRot p q).1.d.den] ?_) | (with_reducible refine World.rangeAt_alloc ?_ _) | (with_reducible refine (World.rangeAt_drew _ _ _ _).2 ?_)); first | exact HR.out.there | (have hh := fun W h => World.rangeAt_setCells_same W (w.heap.size) 0 [.int .i64 (gRot p q).1.a.re, .int .i64 (gRot p q).1.a.im, .int .i64 (gRot p q).1.a.den, .int .i64 (gRot p q).1.b.re, .int .i64 (gRot p q).1.b.im, .int .i64 (gRot p q).1.b.den, .int .i64 (gRot p q).1.c.re, .int .i64 (gRot p q).1.c.im, .int .i64 (gRot p q).1.c.den, .int .i64 (gRot p q).1.d.re, .int .i64 (gRot p q).1.d.im, .int .i64 (gRot p q).1.d.den] h; simp only [World.setCells, Nat.zero_add, Nat.reduceAdd] at hh; exact hh _ HR.out.there))) Tryd.underlying41 rfl (by kernel_rfl)) rfl
    · (repeat' first | (with_reducible exact HB.out) | with_reducible refine setCells_below _ _ _ ?_ (by first | omega | (simp <;> omega)) | with_reducible refine Below.setCell ?_ (by show _ ≤ _; first | omega | (simp <;> omega) | simp) _ | with_reducible refine Below.alloc ?_ (by first | omega | (simp <;> omega)) _ | with_reducible apply Below.drew)
  · have HD := Lib.hid hd
    have HG : Hid (gRot p q = g4 (dC p q) ⟨-(dS p q).re, 0, (dS p q).den⟩ (dS p q) (dC p q) true) := by show _ = _; unfold gRot g4; rw [if_pos hd, if_pos rfl, dS_im]
    clear hd
    obtain ⟨l1, l2⟩ := dS_bd p q
    go_enter Tryd.func105, Tryd.ntmps105
    go_wp2_with fail
    refine (sdir_any p q _).mono ?_
    rintro e w1 ho
    obtain ⟨rfl, hb⟩ := ho.t HD.out
    have kc0 := fun o => hb.cell (p := ⟨w.heap.size, o, none⟩) (by show w.heap.size < _; first | omega | (simp <;> omega))
    have kf0 := fun o => hb.frozen (p := ⟨w.heap.size, o, none⟩) (by show w.heap.size < _; first | omega | (simp <;> omega))
    have hz := hb.size
    simp at hz
    have kl0 : w.heap.size < w1.heap.size := by omega
    have kn0 : ¬ w.heap.size = w1.heap.size := by omega
    have kn1 : ¬ w.heap.size = w1.heap.size + 1 := by omega
    have kn2 : ¬ w.heap.size = w1.heap.size + 1 + 1 := by omega
    have kn3 : ¬ w.heap.size = w1.heap.size + 2 := by omega
    have HR := Lib.hid (show Room w1 w.heap.size 4 from Room.below (Room.new' rfl rfl) hb (by simp))
    have HB := Lib.hid (show Below w.heap.size w w1 from by (repeat' first | exact Below.refl _ _ | apply bl_alloc | apply bl_drewN | apply bl_drew | refine bl_trans ?_ (by assumption) | refine bl_set ?_ (by first | omega | (simp <;> omega)) _))
    clear ho hb
    go_wp2_with fail
    with_reducible refine (l5Four_any (dC p q) ⟨-(dS p q).re, 0, (dS p q).den⟩ (dS p q) (dC p q) true _).mono ?_
    rintro e w2 ho
    rw [← HG.out] at ho
    obtain ⟨rfl, hb⟩ := ho.fn
    have hb3 : Below w1.heap.size w1 w2 := Below.trans ((((Below.refl _ _).alloc (by omega) _).alloc (by simp) _).alloc (by simp <;> omega) _) (hb.mono (by simp <;> omega))
    have kr := fun o => hb3.cell (p := ⟨w.heap.size, o, none⟩) kl0
    have krf := fun o => hb3.frozen (p := ⟨w.heap.size, o, none⟩) kl0
    have HR := Lib.hid (HR.out.below hb3 kl0)
    have HB := Lib.hid (show Below w.heap.size w w2 from HB.out.trans (hb3.mono HB.out.size))
    clear hb3
    clear ho hb
    go_wp2
    refine bodyPost_ret (v := .tuple #[.agg #[.int .i64 (gRot p q).1.a.re, .int .i64 (gRot p q).1.a.im, .int .i64 (gRot p q).1.a.den, .int .i64 (gRot p q).1.b.re, .int .i64 (gRot p q).1.b.im, .int .i64 (gRot p q).1.b.den, .int .i64 (gRot p q).1.c.re, .int .i64 (gRot p q).1.c.im, .int .i64 (gRot p q).1.c.den, .int .i64 (gRot p q).1.d.re, .int .i64 (gRot p q).1.d.im, .int .i64 (gRot p q).1.d.den], .bool (gRot p q).2]) ?_ rfl (M4Out.self ?_)
    · exact Eq.trans (results_cell_mid2 Tryd.results105 _ _ w.heap.size [.int .i64 (gRot p q).1.a.re, .int .i64 (gRot p q).1.a.im, .int .i64 (gRot p q).1.a.den, .int .i64 (gRot p q).1.b.re, .int .i64 (gRot p q).1.b.im, .int .i64 (gRot p q).1.b.den, .int .i64 (gRot p q).1.c.re, .int .i64 (gRot p q).1.c.im, .int .i64 (gRot p q).1.c.den, .int .i64 (gRot p q).1.d.re, .int .i64 (gRot p q).1.d.im, .int .i64 (gRot p q).1.d.den] _ (by rfl) (by ((repeat' first | (with_reducible refine World.rangeAt_setCells_same _ (w.heap.size) 0 [.int .i64 (gRot p q).1.a.re, .int .i64 (gRot p q).1.a.im, .int .i64 (gRot p q).1.a.den, .int .i64 (gRot p q).1.b.re, .int .i64 (gRot p q).1.b.im, .int .i64 (gRot p q).1.b.den, .int .i64 (gRot p q).1.c.re, .int .i64 (gRot p q).1.c.im, .int .i64 (gRot p q).1.c.den, .int .i64 (gRot p q).1.d.re, .int .i64 (gRot p q).1.d.im, .int .i64 (gRot p q).1.d.den] ?_) | (with_reducible refine World.rangeAt_alloc ?_ _) | (with_reducible refine (World.rangeAt_drew _ _ _ _).2 ?_)); first | exact HR.out.there | (have hh := fun W h => World.rangeAt_setCells_same W (w.heap.size) 0 [.int .i64 (gRot p q).1.a.re, .int .i64 (gRot p q).1.a.im, .int .i64 (gRot p q).1.a.den, .int .i64 (gRot p q).1.b.re, .int .i64 (gRot p q).1.b.im, .int .i64 (gRot p q).1.b.den, .int .i64 (gRot p q).1.c.re, .int .i64 (gRot p q).1.c.im, .int .i64 (gRot p q).1.c.den, .int .i64 (gRot p q).1.d.re, .int .i64 (gRot p q).1.d.im, .int .i64 (gRot p q).1.d.den] h; simp only [World.setCells, Nat.zero_add, Nat.reduceAdd] at hh; exact hh _ HR.out.there))) Tryd.underlying41 rfl (by kernel_rfl)) rfl
    · (repeat' first | (with_reducible exact HB.out) | with_reducible refine setCells_below _ _ _ ?_ (by first | omega | (simp <;> omega)) | with_reducible refine Below.setCell ?_ (by show _ ≤ _; first | omega | (simp <;> omega) | simp) _ | with_reducible refine Below.alloc ?_ (by first | omega | (simp <;> omega)) _ | with_reducible apply Below.drew)
end Go.Proofs.YtmcokdiopcpifaaDoor
namespace Go.Proofs.YtmcokdiopcpifaaDoor
open Go.RowKit Pol
theorem box1 {W : World} {X : Nat} {f : Fr} (r : Room W X 1) : BoxAt (((W.setCell ⟨X, 0, none⟩ (.int .i64 f.re)).setCell ⟨X, 1, none⟩ (.int .i64 f.im)).setCell ⟨X, 2, none⟩ (.int .i64 f.den)) X (fun _ => f) 1 :=
  BoxAt.put (g := fun _ => f) (k := 0) (fun k hk => absurd hk (by omega)) r (by omega)
theorem boxN {W : World} {X : Nat} {f : Fr} {t : TypeId} (h : W.heap.size = X) : BoxAt (W.alloc (.cells #[.int .i64 f.re, .int .i64 f.im, .int .i64 f.den] t)) X (fun _ => f) 1 :=
  BoxAt.new' h (fun k hk => by
    obtain rfl : k = 0 := by omega
    exact ⟨rfl, rfl, rfl⟩)
def j2k (a : J2) (k : Nat) : Fr := if k = 0 then a.x else a.y
theorem srcJ (a : J2) (k : Nat) (hk : k < 2) : (#[.int .i64 a.x.re, .int .i64 a.x.im, .int .i64 a.x.den, .int .i64 a.y.re, .int .i64 a.y.im, .int .i64 a.y.den] : Array Value)[k * 3]? = some (.int .i64 (j2k a k).re) ∧ (#[.int .i64 a.x.re, .int .i64 a.x.im, .int .i64 a.x.den, .int .i64 a.y.re, .int .i64 a.y.im, .int .i64 a.y.den] : Array Value)[k * 3 + 1]? = some (.int .i64 (j2k a k).im) ∧ (#[.int .i64 a.x.re, .int .i64 a.x.im, .int .i64 a.x.den, .int .i64 a.y.re, .int .i64 a.y.im, .int .i64 a.y.den] : Array Value)[k * 3 + 2]? = some (.int .i64 (j2k a k).den) := by
  have : k = 0 ∨ k = 1 := by omega
  rcases this with rfl | rfl <;> exact ⟨rfl, rfl, rfl⟩
theorem BoxAt.c3 {W : World} {X n : Nat} {g : Nat → Fr} (h : BoxAt W X g n) (k : Nat) (hk : k < n) : W.cell? ⟨X, k * 3, none⟩ = some (.int .i64 (g k).re) ∧ W.cell? ⟨X, k * 3 + 1, none⟩ = some (.int .i64 (g k).im) ∧ W.cell? ⟨X, k * 3 + 2, none⟩ = some (.int .i64 (g k).den) := h k hk
theorem BoxAt.j6 {W : World} {X : Nat} {a : J2} (h : BoxAt W X (j2k a) 2) : W.cell? ⟨X, 0, none⟩ = some (.int .i64 a.x.re) ∧ W.cell? ⟨X, 1, none⟩ = some (.int .i64 a.x.im) ∧ W.cell? ⟨X, 2, none⟩ = some (.int .i64 a.x.den) ∧ W.cell? ⟨X, 3, none⟩ = some (.int .i64 a.y.re) ∧ W.cell? ⟨X, 4, none⟩ = some (.int .i64 a.y.im) ∧ W.cell? ⟨X, 5, none⟩ = some (.int .i64 a.y.den) :=
  ⟨(h 0 (by omega)).1, (h 0 (by omega)).2.1, (h 0 (by omega)).2.2, (h 1 (by omega)).1, (h 1 (by omega)).2.1, (h 1 (by omega)).2.2⟩
theorem BoxAt.f3 {W : World} {X : Nat} {f : Fr} (h : BoxAt W X (fun _ => f) 1) : W.cell? ⟨X, 0, none⟩ = some (.int .i64 f.re) ∧ W.cell? ⟨X, 1, none⟩ = some (.int .i64 f.im) ∧ W.cell? ⟨X, 2, none⟩ = some (.int .i64 f.den) := h 0 (by omega)
/-- What a reckoning keeps on its way: its own Bool in block P, the result's room R, and boxes of fractions below B. -/
structure CK (w : World) (P R nz : Nat) (v : Bool) (B : Nat) (L : List (Nat × Nat × (Nat → Fr))) (W : World) : Prop where
  below : Below w.heap.size w W
  lo : w.heap.size ≤ P
  hP : P < B
  hR : R < B
  nR : R ≠ P
  lR : w.heap.size ≤ R
  hB : B ≤ W.heap.size
  cell : W.cell? ⟨P, 0, none⟩ = some (.bool v)
  free : W.frozen? ⟨P, 0, none⟩ = false
  room : Room W R nz
  box : ∀ e ∈ L, e.1 < B ∧ (e.1 ≠ P ∧ e.1 ≠ R) ∧ BoxAt W e.1 e.2.2 e.2.1
theorem CK.next {w W W' : World} {P R nz B : Nat} {v : Bool} {L : List (Nat × Nat × (Nat → Fr))} (K : CK w P R nz v B L W) (hb : Below W.heap.size W W') : CK w P R nz v B L W' :=
  have h1 := K.hP
  have h2 := K.hB
  have h3 := K.hR
  ⟨K.below.trans (hb.mono K.below.size), K.lo, K.hP, K.hR, K.nR, K.lR, Nat.le_trans K.hB hb.size, (hb.cell (p := ⟨P, 0, none⟩) (by show P < _; omega)).trans K.cell, (hb.frozen (p := ⟨P, 0, none⟩) (by show P < _; omega)).trans K.free, K.room.below hb (by omega), fun e he => by
    obtain ⟨k1, k2, k3⟩ := K.box e he
    exact ⟨k1, k2, k3.below hb (by omega)⟩⟩
theorem CK.alloc {w W : World} {P R nz B : Nat} {v : Bool} {L : List (Nat × Nat × (Nat → Fr))} (K : CK w P R nz v B L W) (o : Obj) : CK w P R nz v B L (W.alloc o) := K.next ((Below.refl _ _).alloc (Nat.le_refl _) o)
theorem CK.drew {w W : World} {P R nz B : Nat} {v : Bool} {L : List (Nat × Nat × (Nat → Fr))} (K : CK w P R nz v B L W) : CK w P R nz v B L W.drew := K.next (Below.refl _ _).drew
theorem CK.sm {w W W' : World} {P R nz B : Nat} {v u : Bool} {L : List (Nat × Nat × (Nat → Fr))} (K : CK w P R nz v B L W) (hs : Sm P u W W') : CK w P R nz u B L W' :=
  have h1 := K.hP
  have h2 := K.hB
  have h3 := K.hR
  ⟨hs.own K.below K.lo, K.lo, K.hP, K.hR, K.nR, K.lR, Nat.le_trans K.hB hs.size, hs.cell, hs.free, K.room.sm hs (by omega) K.nR, fun e he => by
    obtain ⟨k1, k2, k3⟩ := K.box e he
    exact ⟨k1, k2, k3.sm hs (by omega) k2.1⟩⟩
theorem BoxAt.far {W : World} {X D o n : Nat} {g : Nat → Fr} {x : Value} (h : BoxAt W X g n) (hne : X ≠ D) : BoxAt (W.setCell ⟨D, o, none⟩ x) X g n := fun k hk => by
  have hh : ∀ q, (W.setCell ⟨D, o, none⟩ x).cell? ⟨X, q, none⟩ = W.cell? ⟨X, q, none⟩ := fun q => World.cell?_setCell_far _ _ _ _ (by show D ≠ X; omega)
  rw [hh, hh, hh]; exact h k hk
theorem CK.set {w W : World} {P R nz B : Nat} {v : Bool} {L : List (Nat × Nat × (Nat → Fr))} (K : CK w P R nz v B L W) {D o : Nat} (hD : B ≤ D) (x : Value) : CK w P R nz v B L (W.setCell ⟨D, o, none⟩ x) :=
  have h1 := K.hP
  have h2 := K.lo
  ⟨K.below.setCell (by show _ ≤ D; omega) _, K.lo, K.hP, K.hR, K.nR, K.lR, by rw [World.size_setCell]; exact K.hB, (World.cell?_setCell_far _ _ _ _ (by show D ≠ P; omega)).trans K.cell, by rw [World.frozen?_setCell]; exact K.free, K.room.set _ _, fun e he => by
    obtain ⟨k1, k2, k3⟩ := K.box e he
    exact ⟨k1, k2, k3.far (by omega)⟩⟩
theorem CK.setR {w W : World} {P R nz B : Nat} {v : Bool} {L : List (Nat × Nat × (Nat → Fr))} (K : CK w P R nz v B L W) {o : Nat} (x : Value) : CK w P R nz v B L (W.setCell ⟨R, o, none⟩ x) :=
  have h1 := K.nR
  ⟨K.below.setCell (by show _ ≤ R; exact K.lR) _, K.lo, K.hP, K.hR, K.nR, K.lR, by rw [World.size_setCell]; exact K.hB, (World.cell?_setCell_far _ _ _ _ (by show R ≠ P; exact h1)).trans K.cell, by rw [World.frozen?_setCell]; exact K.free, K.room.set _ _, fun e he => by
    obtain ⟨k1, k2, k3⟩ := K.box e he
    exact ⟨k1, k2, k3.far k2.2⟩⟩
theorem CK.j {w W : World} {P R nz B : Nat} {v : Bool} {L : List (Nat × Nat × (Nat → Fr))} {A : Nat} {a : J2} (hm : (A, 2, j2k a) ∈ L) (K : CK w P R nz v B L W) : W.cell? ⟨A, 0, none⟩ = some (.int .i64 a.x.re) ∧ W.cell? ⟨A, 1, none⟩ = some (.int .i64 a.x.im) ∧ W.cell? ⟨A, 2, none⟩ = some (.int .i64 a.x.den) ∧ W.cell? ⟨A, 3, none⟩ = some (.int .i64 a.y.re) ∧ W.cell? ⟨A, 4, none⟩ = some (.int .i64 a.y.im) ∧ W.cell? ⟨A, 5, none⟩ = some (.int .i64 a.y.den) := (K.box _ hm).2.2.j6
theorem CK.q4 {w W : World} {P R nz B : Nat} {v : Bool} {L : List (Nat × Nat × (Nat → Fr))} {X Y T D : Nat} {x y t d : Fr} (K : CK w P R nz v B ((D, 1, fun _ => d) :: (T, 1, fun _ => t) :: (X, 1, fun _ => x) :: (Y, 1, fun _ => y) :: L) W) :
    (W.cell? ⟨X, 0, none⟩ = some (.int .i64 x.re) ∧ W.cell? ⟨X, 1, none⟩ = some (.int .i64 x.im) ∧ W.cell? ⟨X, 2, none⟩ = some (.int .i64 x.den)) ∧ (W.cell? ⟨Y, 0, none⟩ = some (.int .i64 y.re) ∧ W.cell? ⟨Y, 1, none⟩ = some (.int .i64 y.im) ∧ W.cell? ⟨Y, 2, none⟩ = some (.int .i64 y.den)) ∧ (W.cell? ⟨T, 0, none⟩ = some (.int .i64 t.re) ∧ W.cell? ⟨T, 1, none⟩ = some (.int .i64 t.im) ∧ W.cell? ⟨T, 2, none⟩ = some (.int .i64 t.den)) ∧ (W.cell? ⟨D, 0, none⟩ = some (.int .i64 d.re) ∧ W.cell? ⟨D, 1, none⟩ = some (.int .i64 d.im) ∧ W.cell? ⟨D, 2, none⟩ = some (.int .i64 d.den)) :=
  ⟨(K.box (X, 1, fun _ => x) (by simp)).2.2.f3, (K.box (Y, 1, fun _ => y) (by simp)).2.2.f3, (K.box (T, 1, fun _ => t) (by simp)).2.2.f3, (K.box (D, 1, fun _ => d) (by simp)).2.2.f3⟩
theorem CK.more2 {w W : World} {P R nz B : Nat} {v : Bool} {L : List (Nat × Nat × (Nat → Fr))} (K : CK w P R nz v B L W) {X Y n m : Nat} {g h : Nat → Fr} (hX : B ≤ X) (hX2 : X < W.heap.size) (hb : BoxAt W X g n) (hY : B ≤ Y) (hY2 : Y < W.heap.size) (hc : BoxAt W Y h m) : CK w P R nz v W.heap.size ((X, n, g) :: (Y, m, h) :: L) W :=
  have h1 := K.hP
  have h2 := K.hR
  have h3 := K.hB
  ⟨K.below, K.lo, by omega, by omega, K.nR, K.lR, Nat.le_refl _, K.cell, K.free, K.room, fun e he => by
    rcases List.mem_cons.1 he with rfl | he
    · exact ⟨hX2, ⟨by show X ≠ P; omega, by show X ≠ R; omega⟩, hb⟩
    rcases List.mem_cons.1 he with rfl | he
    · exact ⟨hY2, ⟨by show Y ≠ P; omega, by show Y ≠ R; omega⟩, hc⟩
    · obtain ⟨k1, k2, k3⟩ := K.box e he
      exact ⟨by omega, k2, k3⟩⟩
theorem Sm.out2 {b : Nat} {v : Bool} {W w1 : World} (hs : Sm b v W w1) : ∃ B, B = W.heap.size ∧ (∀ k, k < B → k ≠ b → ∀ o, w1.cell? ⟨k, o, none⟩ = W.cell? ⟨k, o, none⟩) ∧ (∀ k, k < B → k ≠ b → ∀ o, w1.frozen? ⟨k, o, none⟩ = W.frozen? ⟨k, o, none⟩) :=
  ⟨_, rfl, fun k hk hn o => hs.atc k hk hn o, fun k hk hn o => hs.atf k hk hn o⟩
theorem ck_call {w W : World} {P R nz B : Nat} {v : Bool} {L : List (Nat × Nat × (Nat → Fr))} {f : Nat} {args : Array Value} {g : Fr × Bool} (K : CK w P R nz v B L W) (c : P < W.heap.size → W.cell? ⟨P, 0, none⟩ = some (.bool v) → W.frozen? ⟨P, 0, none⟩ = false → Calls Tryd.prog f args W (SmOut P v g W)) :
    Calls Tryd.prog f args W (fun e w' => e = .returned (.agg #[.int .i64 g.1.re, .int .i64 g.1.im, .int .i64 g.1.den]) ∧ Sm P (v || !g.2) W w' ∧ CK w P R nz (v || !g.2) B L w') :=
  (c (Nat.lt_of_lt_of_le K.hP K.hB) K.cell K.free).mono fun _ _ h => ⟨h.fn.1, h.fn.2, K.sm h.fn.2⟩
end Go.Proofs.YtmcokdiopcpifaaDoor
