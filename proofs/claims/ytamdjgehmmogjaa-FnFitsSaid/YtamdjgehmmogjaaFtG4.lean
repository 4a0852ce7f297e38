/- Plain facts on vectors and matrices of fractions. No program is in sight. -/
import Derived.Test.YtamdjgehmmogjaaFtG0
import Derived.Test.YtamdjgehmmogjaaFtE
import Derived.Test.YtamdjgehmmogjaaFtDD
import Derived.Laws.StructEq
set_option maxRecDepth 100000
namespace Pol
def m4z : M4 := ⟨fz, fz, fz, fz⟩
def j2z : J2 := ⟨fz, fz⟩
end Pol
namespace Pol
/-- A value, or its zero where something on the way is none. -/
def gt {α : Type} (z : α) (e : Bool) (x : α) : α × Bool := if e = true then (z, false) else (x, true)
theorem gt_no {α : Type} {z : α} {e : Bool} {x : α} (h : (gt z e x).2 = false) : gt z e x = (z, false) := by unfold gt at h ⊢; cases e <;> simp_all
theorem gt_end {α : Type} (z : α) (e : Bool) (x : α) : e = !(gt z e x).2 ∧ ((gt z e x).2 = true → x = (gt z e x).1) := by unfold gt; cases e <;> simp
def jv (a : J2) : Bool := vld a.x && vld a.y
theorem jv_iff {a : J2} : jv a = true ↔ vld a.x = true ∧ vld a.y = true := by unfold jv; simp
def j2of (p q : Fr × Bool) : J2 × Bool := if (p.2 && q.2) = true then (⟨p.1, q.1⟩, true) else (j2z, false)
theorem j2of_eq (p q : Fr × Bool) : gt j2z ((false || !p.2) || !q.2) ⟨p.1, q.1⟩ = j2of p q := by
  unfold gt j2of; cases p.2 <;> cases q.2 <;> simp
def jMir (a : J2) : J2 × Bool := j2of (fMirror a.x) (fMirror a.y)
def jMirI (a : J2) : J2 × Bool := gt j2z ((false || !(fMirror a.x).2) || !(fMirror a.y).2) ⟨(fMirror a.x).1, (fMirror a.y).1⟩
theorem jMirI_eq (a : J2) : jMirI a = jMir a := j2of_eq _ _
end Pol
namespace Pol
def f2 : Fr := ⟨2, 0, 1⟩
end Pol
namespace Go.Proofs.Ytamdjgehmmogjaa
open Go.RowKit Pol
/-- What a call hands back that makes four fractions. -/
def M4Out (g : M4 × Bool) (w : World) (e : Ending) (w' : World) : Prop :=
  e = .returned (.tuple #[.agg #[.int .i64 g.1.a.re, .int .i64 g.1.a.im, .int .i64 g.1.a.den, .int .i64 g.1.b.re, .int .i64 g.1.b.im, .int .i64 g.1.b.den, .int .i64 g.1.c.re, .int .i64 g.1.c.im, .int .i64 g.1.c.den, .int .i64 g.1.d.re, .int .i64 g.1.d.im, .int .i64 g.1.d.den], .bool g.2]) ∧ Below w.heap.size w w'
theorem M4Out.yes {g : M4 × Bool} {f : M4} {w w' : World} (h2 : g.2 = true) (h1 : f = g.1) (hb : Below w.heap.size w w') : M4Out g w (.returned (.tuple #[.agg #[.int .i64 f.a.re, .int .i64 f.a.im, .int .i64 f.a.den, .int .i64 f.b.re, .int .i64 f.b.im, .int .i64 f.b.den, .int .i64 f.c.re, .int .i64 f.c.im, .int .i64 f.c.den, .int .i64 f.d.re, .int .i64 f.d.im, .int .i64 f.d.den], .bool true])) w' :=
  ⟨by rw [h1, h2], hb⟩
theorem M4Out.no {g : M4 × Bool} {w w' : World} (h2 : g = (m4z, false)) (hb : Below w.heap.size w w') : M4Out g w (.returned (.tuple #[.agg #[.int .i64 0, .int .i64 0, .int .i64 0, .int .i64 0, .int .i64 0, .int .i64 0, .int .i64 0, .int .i64 0, .int .i64 0, .int .i64 0, .int .i64 0, .int .i64 0], .bool false])) w' :=
  ⟨by rw [h2]; rfl, hb⟩
theorem Room.sm {b : Nat} {v : Bool} {W w1 : World} {N n : Nat} (h : Room W N n) (hs : Sm b v W w1) (hN : N < W.heap.size) (hne : N ≠ b) : Room w1 N n := fun j hj =>
  ⟨by rw [hs.atc N hN hne]; exact (h j hj).1, by rw [hs.atf N hN hne]; exact (h j hj).2⟩
theorem results_cell_mid2 {P : Program} {fn : Func} {p u : Tmp} {ty : TypeId} (h : fn.results = #[.cell p ty, .tmp u]) (tmps : Array Value) (w : World) (g : Nat) (cs : List Value) (d : TypeDesc)
    (hp : tmps.getD p undef = .pointer (some ⟨g, 0, none⟩)) (hc : w.rangeAt g 0 cs) (hu : P.underlying ty = some d) (hd : d.isRow = true) (hi : (P.info? ty).map (·.size) = some cs.length) :
    (results fn tmps).run P w = .ok (.tuple #[.agg cs.toArray, tmps.getD u undef]) w := by
  have hp' : tmps[p]?.getD undef = .pointer (some ⟨g, 0, none⟩) := by simpa using hp
  simp [results, h, hp', asAddr, run_loadVar_mid w g 0 ty cs d hc hu hd hi]
end Go.Proofs.Ytamdjgehmmogjaa
namespace Go.Proofs.Ytamdjgehmmogjaa
open Go.RowKit Pol
theorem M4Out.fn {g : M4 × Bool} {w w' : World} {e : Ending} (h : M4Out g w e w') : e = .returned (.tuple #[.agg #[.int .i64 g.1.a.re, .int .i64 g.1.a.im, .int .i64 g.1.a.den, .int .i64 g.1.b.re, .int .i64 g.1.b.im, .int .i64 g.1.b.den, .int .i64 g.1.c.re, .int .i64 g.1.c.im, .int .i64 g.1.c.den, .int .i64 g.1.d.re, .int .i64 g.1.d.im, .int .i64 g.1.d.den], .bool g.2]) ∧ Below w.heap.size w w' := h
end Go.Proofs.Ytamdjgehmmogjaa
namespace Go.Proofs.Ytamdjgehmmogjaa
open Go.RowKit Pol
/-- What a call hands back that makes a vector. -/
def J2Out (g : J2 × Bool) (w : World) (e : Ending) (w' : World) : Prop :=
  e = .returned (.tuple #[.agg #[.int .i64 g.1.x.re, .int .i64 g.1.x.im, .int .i64 g.1.x.den, .int .i64 g.1.y.re, .int .i64 g.1.y.im, .int .i64 g.1.y.den], .bool g.2]) ∧ Below w.heap.size w w'
theorem J2Out.yes {g : J2 × Bool} {f : J2} {w w' : World} (h2 : g.2 = true) (h1 : f = g.1) (hb : Below w.heap.size w w') : J2Out g w (.returned (.tuple #[.agg #[.int .i64 f.x.re, .int .i64 f.x.im, .int .i64 f.x.den, .int .i64 f.y.re, .int .i64 f.y.im, .int .i64 f.y.den], .bool true])) w' :=
  ⟨by rw [h1, h2], hb⟩
theorem J2Out.no {g : J2 × Bool} {w w' : World} (h2 : g = (j2z, false)) (hb : Below w.heap.size w w') : J2Out g w (.returned (.tuple #[.agg #[.int .i64 0, .int .i64 0, .int .i64 0, .int .i64 0, .int .i64 0, .int .i64 0], .bool false])) w' :=
  ⟨by rw [h2]; rfl, hb⟩
theorem J2Out.fn {g : J2 × Bool} {w w' : World} {e : Ending} (h : J2Out g w e w') : e = .returned (.tuple #[.agg #[.int .i64 g.1.x.re, .int .i64 g.1.x.im, .int .i64 g.1.x.den, .int .i64 g.1.y.re, .int .i64 g.1.y.im, .int .i64 g.1.y.den], .bool g.2]) ∧ Below w.heap.size w w' := h
theorem jv_no1 {a : J2} (h : vld a.x = false) : jv a = false := by unfold jv; rw [h]; rfl
theorem jv_y {a : J2} (h : vld a.x = true) : jv a = vld a.y := by unfold jv; rw [h]; rfl
set_option maxHeartbeats 2000000 in
theorem ijv_any (a : J2) (w : World) :
    Calls Try.prog 26 #[.agg #[.int .i64 a.x.re, .int .i64 a.x.im, .int .i64 a.x.den, .int .i64 a.y.re, .int .i64 a.y.im, .int .i64 a.y.den]] w fun e w' => e = .returned (.bool (jv a)) ∧ Below w.heap.size w w' := by
  cases hx : vld a.x
  · have HG := Lib.hid (jv_no1 hx)
    go_enter Try.func26, Try.ntmps26
    go_wp2_with (go_at_call 34; (with_reducible refine (valid_fb hx _).mono ?_); rintro e w1 ⟨rfl, hb⟩; have hb' := hb; obtain ⟨hc, hf, hz⟩ := bcellk (B := w.heap.size + 1) hb (by first | omega | (simp <;> omega)))
    go_ret
    exact ⟨ret_bool (by simp [HG.out]), by (repeat' first | exact Below.refl _ _ | apply bl_alloc | apply bl_drewN | apply bl_drew | refine bl_trans ?_ (by assumption) | refine bl_set ?_ (by first | omega | (simp <;> omega)) _)⟩
  · cases hy : vld a.y
    · have HG := Lib.hid ((jv_y hx).trans hy)
      go_enter Try.func26, Try.ntmps26
      go_wp2_with (go_at_call 34; (first | (with_reducible refine (valid_fb hx _).mono ?_) | (with_reducible refine (valid_fb hy _).mono ?_)); rintro e w1 ⟨rfl, hb⟩; have hb' := hb; obtain ⟨hc, hf, hz⟩ := bcellk (B := w.heap.size + 1) hb (by first | omega | (simp <;> omega)))
      go_ret
      exact ⟨ret_bool (by simp [HG.out]), by (repeat' first | exact Below.refl _ _ | apply bl_alloc | apply bl_drewN | apply bl_drew | refine bl_trans ?_ (by assumption) | refine bl_set ?_ (by first | omega | (simp <;> omega)) _)⟩
    · have HG := Lib.hid ((jv_y hx).trans hy)
      go_enter Try.func26, Try.ntmps26
      go_wp2_with (go_at_call 34; (first | (with_reducible refine (valid_fb hx _).mono ?_) | (with_reducible refine (valid_fb hy _).mono ?_)); rintro e w1 ⟨rfl, hb⟩; have hb' := hb; obtain ⟨hc, hf, hz⟩ := bcellk (B := w.heap.size + 1) hb (by first | omega | (simp <;> omega)))
      go_ret
      exact ⟨ret_bool (by simp [HG.out]), by (repeat' first | exact Below.refl _ _ | apply bl_alloc | apply bl_drewN | apply bl_drew | refine bl_trans ?_ (by assumption) | refine bl_set ?_ (by first | omega | (simp <;> omega)) _)⟩
end Go.Proofs.Ytamdjgehmmogjaa
namespace Go.Proofs.Ytamdjgehmmogjaa
open Go.RowKit Pol
theorem FrOut.is {g g' : Fr × Bool} {w w' : World} (h : g = g') (hb : Below w.heap.size w w') : FrOut g w (.returned (.tuple #[.agg #[.int .i64 g'.1.re, .int .i64 g'.1.im, .int .i64 g'.1.den], .bool g'.2])) w' := ⟨g'.1, g'.2, h, rfl, hb⟩
end Go.Proofs.Ytamdjgehmmogjaa
namespace Pol
/-- The flag after k places. -/
def fl (e : Bool) (f : Nat → Fr × Bool) : Nat → Bool
  | 0 => e
  | k + 1 => fl e f k || !(f k).2
end Pol
namespace Go.Proofs.Ytamdjgehmmogjaa
open Go.RowKit Pol
theorem BoxAt.sm {b : Nat} {v : Bool} {W w1 : World} {N n : Nat} {g : Nat → Fr} (h : BoxAt W N g n) (hs : Sm b v W w1) (hN : N < W.heap.size) (hne : N ≠ b) : BoxAt w1 N g n := fun k hk => by
  obtain ⟨h0, h1, h2⟩ := h k hk
  exact ⟨(hs.atc N hN hne _).trans h0, (hs.atc N hN hne _).trans h1, (hs.atc N hN hne _).trans h2⟩
/-- Where the loop stands: k places are done. -/
structure LRel (W : World) (A B R P O : Nat) (ga gb : Nat → Fr) (nb : Nat) (e : Bool) (f : Nat → Fr × Bool) (k : Nat) (wr : World) : Prop where
  le : k ≤ 4
  below : Below W.heap.size W wr
  size : O + 1 ≤ wr.heap.size
  one : BoxAt wr A ga 4
  two : BoxAt wr B gb nb
  res : Room wr R 4
  room : Room wr O 4
  out : BoxAt wr O (fun i => (f i).1) k
  cell : wr.cell? ⟨P, 0, none⟩ = some (.bool (fl e f k))
  free : wr.frozen? ⟨P, 0, none⟩ = false
/-- The order of the boxes. -/
structure Ord (W : World) (A B R P O : Nat) : Prop where
  hA : A < P
  hB : B < P
  hR : R < P
  hP : P < O
  wP : W.heap.size ≤ P
  wO : W.heap.size ≤ O
  nA : A ≠ O
  nB : B ≠ O
  nR : R ≠ O
theorem LRel.drew {W wr : World} {A B R P O : Nat} {ga gb : Nat → Fr} {nb : Nat} {e : Bool} {f : Nat → Fr × Bool} {k : Nat} (h : LRel W A B R P O ga gb nb e f k wr) : LRel W A B R P O ga gb nb e f k wr.drew := ⟨h.le, h.below.drew, h.size, h.one, h.two, h.res, h.room, h.out, h.cell, h.free⟩
end Go.Proofs.Ytamdjgehmmogjaa
namespace Go.Proofs.Ytamdjgehmmogjaa
open Go.RowKit Pol
/-- Where the reference's loop stands: k places are done, and none was none. -/
structure SRel (W : World) (A B R O : Nat) (ga gb : Nat → Fr) (nb : Nat) (f : Nat → Fr × Bool) (k : Nat) (wr : World) : Prop where
  le : k ≤ 4
  below : Below W.heap.size W wr
  size : O + 1 ≤ wr.heap.size
  one : BoxAt wr A ga 4
  two : BoxAt wr B gb nb
  res : Room wr R 4
  room : Room wr O 4
  out : BoxAt wr O (fun i => (f i).1) k
  good : ∀ j, j < k → (f j).2 = true
structure Ord2 (W : World) (A B R O : Nat) : Prop where
  hA : A < O
  hB : B < O
  hR : R < O
  wO : W.heap.size ≤ O
theorem SRel.below' {W wr w1 : World} {A B R O : Nat} {ga gb : Nat → Fr} {nb : Nat} {f : Nat → Fr × Bool} {k : Nat} (h : SRel W A B R O ga gb nb f k wr) (o : Ord2 W A B R O) (hb : Below wr.heap.size wr w1) : SRel W A B R O ga gb nb f k w1 := by
  have hz := h.size
  obtain ⟨a1, a2, a3, a4⟩ := o
  exact ⟨h.le, h.below.trans (hb.mono h.below.size), Nat.le_trans hz hb.size, h.one.below hb (by omega), h.two.below hb (by omega), h.res.below hb (by omega), h.room.below hb (by omega), h.out.below hb (by omega), h.good⟩
theorem SRel.alloc {W w1 : World} {A B R O : Nat} {ga gb : Nat → Fr} {nb : Nat} {f : Nat → Fr × Bool} {k : Nat} (h : SRel W A B R O ga gb nb f k w1) (o : Ord2 W A B R O) (x : Obj) : SRel W A B R O ga gb nb f k (w1.alloc x) := h.below' o ((Below.refl _ _).alloc (Nat.le_refl _) x)
theorem SRel.drew {W wr : World} {A B R O : Nat} {ga gb : Nat → Fr} {nb : Nat} {f : Nat → Fr × Bool} {k : Nat} (h : SRel W A B R O ga gb nb f k wr) : SRel W A B R O ga gb nb f k wr.drew := ⟨h.le, h.below.drew, h.size, h.one, h.two, h.res, h.room, h.out, h.good⟩
end Go.Proofs.Ytamdjgehmmogjaa
namespace Go.Proofs.Ytamdjgehmmogjaa
open Go.RowKit Pol
/-- The loop that draws the four. -/
structure DRel (N R : Nat) (a0 : Option Addr) (len cap kk O : Nat) (w : World) (i : Nat) (wr : World) : Prop where
  le : i ≤ 4
  own : Own R w wr
  rd : Rd N R a0 len cap (kk + 20 * i) wr
  lo : w.heap.size < O
  hi : O < wr.heap.size
  res : Room wr w.heap.size 4
  room : Room wr O 4
  box : ∃ g : Nat → Fr, BoxAt wr O g i
def OpenOut (N : Nat) (a0 : Option Addr) (cap : Nat) (w : World) (e : Ending) (w' : World) : Prop := ∃ R len', e = .returned (.pointer (some ⟨R, 0, none⟩)) ∧ Below w.heap.size w w' ∧ w.heap.size ≤ R ∧ Rd N R a0 len' cap 0 w'
set_option maxHeartbeats 2000000 in
theorem open_any (N : Nat) (a0 : Option Addr) (len cap : Nat) (w : World) (hN : N ≤ w.heap.size) (hc : len ≤ cap) (HC : Code N w a0 len) :
    Calls Try.prog 25 #[.slice a0 len cap] w (OpenOut N a0 cap w) := by
  by_cases h : 2000 < len
  · obtain ⟨B, off, rfl, hB, -⟩ := HC 0 (by omega)
    have h1 : (2000 : Int) < (len : Int) := by omega
    have h2 : (2000 : Int) ≤ (cap : Int) := by omega
    have h3 : 2000 ≤ cap := by omega
    go_enter Try.func25, Try.ntmps25
    go_wp2
    go_ret
    refine ⟨w.heap.size, 2000, rfl, by (repeat' first | exact Below.refl _ _ | apply bl_alloc | apply bl_drewN | apply bl_drew | refine bl_trans ?_ (by assumption) | refine bl_set ?_ (by first | omega | (simp <;> omega)) _), Nat.le_refl _, ⟨by simp, hN, by simp [go_sem], ⟨0, by omega, by simp [go_sem]⟩, by simp [go_sem], by omega, ?_⟩⟩
    exact Code.keep (fun i hi => HC i (by omega)) fun B o hB => World.cell?_alloc_old _ _ _ (by show B ≠ w.heap.size; omega)
  · have h1 : ¬ (2000 : Int) < (len : Int) := by omega
    go_enter Try.func25, Try.ntmps25
    go_wp2
    go_ret
    refine ⟨w.heap.size, len, rfl, by (repeat' first | exact Below.refl _ _ | apply bl_alloc | apply bl_drewN | apply bl_drew | refine bl_trans ?_ (by assumption) | refine bl_set ?_ (by first | omega | (simp <;> omega)) _), Nat.le_refl _, ⟨by simp, hN, by simp [go_sem], ⟨0, by omega, by simp [go_sem]⟩, by simp [go_sem], by omega, ?_⟩⟩
    exact HC.keep fun B o hB => World.cell?_alloc_old _ _ _ (by show B ≠ w.heap.size; omega)
end Go.Proofs.Ytamdjgehmmogjaa
namespace Go.Proofs.Ytamdjgehmmogjaa
open Go.ChangeShapes Go.WideShapes Go.ChangeAt Go.RowKit Pol
/-- The code's bytes, read. -/
theorem open_code {H : Type} {enc : TypeId × Value → H} {W : World} {fuel : Nat} {a0 : Option Addr} {len cap : Nat} {x : DataW H × List MemPlace}
    (hf : DataW.trod enc Try.prog W 0 (fun _ => true) true fuel 22 (Value.cells (.slice a0 len cap)).toList = some x) (hlt : ∀ y ∈ x.2, y.block < W.heap.size) : len ≤ cap ∧ Code W.heap.size W a0 len := by
  rcases open_ints Try.underlying22 Try.underlying5 (by kernel_rfl) hf with ⟨hcs, hx⟩ | ⟨a, len', cap', zs, hcs, _, hl, hm, hz, hx, hcell, hwz⟩
  · replace hcs : [Value.slice a0 len cap] = _ := hcs
    simp at hcs
    obtain ⟨rfl, rfl, rfl⟩ := hcs
    exact ⟨Nat.le_refl _, fun i hi => absurd hi (Nat.not_lt_zero _)⟩
  · replace hcs : [Value.slice a0 len cap] = _ := hcs
    simp at hcs
    obtain ⟨rfl, rfl, rfl⟩ := hcs
    subst hx
    refine ⟨hl, fun i hi => ?_⟩
    have hlen : i < zs.length := by rw [hz]; split <;> omega
    obtain ⟨b, off, spot⟩ := a
    have hs0 := World.cell?_spot (hcell 0 (by omega))
    have hspot : spot = none := by simpa [Addr.add] using hs0
    subst hspot
    have ha : (⟨b, off, none⟩ : Addr).add i = ⟨b, off + i, none⟩ := by cases i <;> simp [Addr.add]
    have hc := hcell i hlen
    rw [ha] at hc
    have hb : b < W.heap.size := hlt (.cell b (off + i)) (MemPlace.mem_row.2 ⟨i, hlen, by simp⟩)
    have hw := hwz (zs.getD i 0) (by rw [List.getD_eq_getElem?_getD, List.getElem?_eq_getElem hlen]; exact List.getElem_mem hlen)
    have hw' := bounds_u8 hw
    exact ⟨b, off, rfl, hb, zs.getD i 0, hw'.1, by omega, hc⟩
theorem hd {p : Prop} (h : p) : Hid p := h
end Go.Proofs.Ytamdjgehmmogjaa
