/- Contracts: draws of matrices and directions. -/
import Derived.Test.YtmcokdiopcpifaaDoorPlG4
import Derived.Test.YtmcokdiopcpifaaDoorPlMP
import Derived.Test.YtmcokdiopcpifaaDoorPlZ
import Derived.Test.YtmcokdiopcpifaaDoorPlT
import Derived.Deep.DeepCutAuto
import Derived.Test.YtmcokdiopcpifaaDoorPlG1
import Derived.Test.YtmcokdiopcpifaaDoorPlPlain
import Derived.Laws.StructEq
import Derived.LaidMore
import Derived.OpenVars
import Derived.Deep.Strs
import Derived.MakeChecks
import Derived.LaidHandle
import Derived.Test.YtmcokdiopcpifaaDoorPlG17
set_option maxRecDepth 100000
namespace Go.Proofs.YtmcokdiopcpifaaDoor
open Go.RowKit Pol
/-- The loop that draws the four. -/
structure MRel (N R : Nat) (a0 : Option Addr) (len cap kk O : Nat) (w : World) (i : Nat) (wr : World) : Prop where
  le : i ≤ 4
  own : Own R w wr
  rd : Rd N R a0 len cap (kk + 20 * i) wr
  lo : w.heap.size < O
  hi : O < wr.heap.size
  res : Room wr w.heap.size 4
  room : Room wr O 4
  box : ∃ g : Nat → Fr, BoxAt wr O g i
def DirP (v : Value) : Prop := ∃ p q : Int, v = .tuple #[.int .i64 p, .int .i64 q]
def OpenOut (N : Nat) (a0 : Option Addr) (cap : Nat) (w : World) (e : Ending) (w' : World) : Prop := ∃ R len', e = .returned (.pointer (some ⟨R, 0, none⟩)) ∧ Below w.heap.size w w' ∧ w.heap.size ≤ R ∧ Rd N R a0 len' cap 0 w'
set_option maxHeartbeats 2000000 in
theorem open_any (N : Nat) (a0 : Option Addr) (len cap : Nat) (w : World) (hN : N ≤ w.heap.size) (hc : len ≤ cap) (HC : Code N w a0 len) :
    Calls Tryd.prog 82 #[.slice a0 len cap] w (OpenOut N a0 cap w) := by
  by_cases h : 2000 < len
  · obtain ⟨B, off, rfl, hB, -⟩ := HC 0 (by omega)
    have h1 : (2000 : Int) < (len : Int) := by omega
    have h2 : (2000 : Int) ≤ (cap : Int) := by omega
    have h3 : 2000 ≤ cap := by omega
    go_enter Tryd.func82, Tryd.ntmps82
    go_wp2
    go_ret
    refine ⟨w.heap.size, 2000, rfl, by (repeat' first | exact Below.refl _ _ | apply bl_alloc | apply bl_drewN | apply bl_drew | refine bl_trans ?_ (by assumption) | refine bl_set ?_ (by first | omega | (simp <;> omega)) _), Nat.le_refl _, ⟨by simp, hN, by simp [go_sem], ⟨0, by omega, by simp [go_sem]⟩, by simp [go_sem], by omega, ?_⟩⟩
    exact Code.keep (fun i hi => HC i (by omega)) fun B o hB => World.cell?_alloc_old _ _ _ (by show B ≠ w.heap.size; omega)
  · have h1 : ¬ (2000 : Int) < (len : Int) := by omega
    go_enter Tryd.func82, Tryd.ntmps82
    go_wp2
    go_ret
    refine ⟨w.heap.size, len, rfl, by (repeat' first | exact Below.refl _ _ | apply bl_alloc | apply bl_drewN | apply bl_drew | refine bl_trans ?_ (by assumption) | refine bl_set ?_ (by first | omega | (simp <;> omega)) _), Nat.le_refl _, ⟨by simp, hN, by simp [go_sem], ⟨0, by omega, by simp [go_sem]⟩, by simp [go_sem], by omega, ?_⟩⟩
    exact HC.keep fun B o hB => World.cell?_alloc_old _ _ _ (by show B ≠ w.heap.size; omega)
set_option maxRecDepth 100000 in
set_option maxHeartbeats 8000000 in
theorem l91Direction_any {N R : Nat} {a0 : Option Addr} {len cap k : Nat} {w : World} (hk : k ≤ 50000) (h : Rd N R a0 len cap k w) :
    Calls Tryd.prog 103 #[.pointer (some ⟨R, 0, none⟩)] w (RdOut DirP N R a0 len cap (k + 3) w) := by
  have hRl := h.lt
  have h0 := Lib.hid h; clear h
  have HO : Hid (Own R w w) := Own.refl _ _
  have HR := h0
  have hzz : w.heap.size ≤ w.heap.size := Nat.le_refl _
  go_enter Tryd.func103, Tryd.ntmps103
  go_wp2_with fail
  refine (pick_any 7 (by omega) (by omega) (by omega) HR.out).mono ?_
  rintro e w1 ⟨v, rfl, ⟨p, rfl, p0, p1⟩, hO, hR⟩
  have HO := Lib.hid (HO.out.trans hO)
  have HR := Lib.hid hR
  have hz1 := hO.size
  (try simp at hz1)
  clear hO hR
  have nR : R < w1.heap.size := HR.out.lt
  go_wp2_with fail
  refine (pick_any 7 (by omega) (by omega) (by omega) HR.out).mono ?_
  rintro e w2 ⟨v, rfl, ⟨q, rfl, q0, q1⟩, hO, hR⟩
  have HO := Lib.hid (HO.out.trans hO)
  have HR := Lib.hid hR
  have hz2 := hO.size
  (try simp at hz2)
  clear hO hR
  have nR : R < w2.heap.size := HR.out.lt
  go_wp2_with fail
  refine (pick_any 30 (by omega) (by omega) (by omega) HR.out).mono ?_
  rintro e w3 ⟨v, rfl, ⟨m, rfl, m0, m1⟩, hO, hR⟩
  have HO := Lib.hid (HO.out.trans hO)
  have HR := Lib.hid hR
  have hz3 := hO.size
  (try simp at hz3)
  clear hO hR
  have nR : R < w3.heap.size := HR.out.lt
  have HR := Lib.hid (HR.out.mono (show _ ≤ k + 3 by omega))
  by_cases hm : m = 0
  · subst hm
    go_wp2
    go_ret2
    exact ⟨_, rfl, ⟨101, q - 3, rfl⟩, (by (repeat' first | (with_reducible exact HO.out) | (with_reducible refine Own.alloc ?_ _) | (with_reducible refine Own.setNew ?_ (by first | omega | (simp <;> omega)) _) | (with_reducible refine Own.drewN ?_ _) | (with_reducible refine Own.drew ?_))), (by (repeat' first | (with_reducible exact HR.out) | (with_reducible refine Rd.alloc ?_ _) | (with_reducible refine Rd.put ?_ (by first | omega | (simp <;> omega)) _) | (with_reducible refine Rd.drewN ?_ _) | (with_reducible refine Rd.drew ?_)))⟩
  have qm : (m == 0) = false := by simpa using hm
  clear hm
  go_wp2
  go_ret2
  exact ⟨_, rfl, ⟨p - 3, q - 3, rfl⟩, (by (repeat' first | (with_reducible exact HO.out) | (with_reducible refine Own.alloc ?_ _) | (with_reducible refine Own.setNew ?_ (by first | omega | (simp <;> omega)) _) | (with_reducible refine Own.drewN ?_ _) | (with_reducible refine Own.drew ?_))), (by (repeat' first | (with_reducible exact HR.out) | (with_reducible refine Rd.alloc ?_ _) | (with_reducible refine Rd.put ?_ (by first | omega | (simp <;> omega)) _) | (with_reducible refine Rd.drewN ?_ _) | (with_reducible refine Rd.drew ?_)))⟩
end Go.Proofs.YtmcokdiopcpifaaDoor
namespace Go.Proofs.YtmcokdiopcpifaaDoor
open Go.RowKit Pol
theorem setCells_size (g : Nat) : ∀ (vs : List Value) (o : Nat) (w : World), (w.setCells g o vs).heap.size = w.heap.size
  | [], _, _ => rfl
  | _ :: vs, o, _ => (setCells_size g vs (o + 1) _).trans (World.size_setCell _ _ _)
theorem Room.lt {w : World} {N n : Nat} (h : Room w N n) (hn : 0 < n) : N < w.heap.size := by
  obtain ⟨v, hv⟩ := Option.isSome_iff_exists.1 (h 0 (by omega)).1
  exact World.block_lt_of_cell? _ _ hv
structure Ctx (w : World) (A C B : Nat) (la lc lb : List Value) (wx : World) : Prop where
  below : Below w.heap.size w wx
  hA : A < wx.heap.size
  hC : C < wx.heap.size
  hB : B < wx.heap.size
  a : wx.rangeAt A 0 la
  c : wx.rangeAt C 0 lc
  b : wx.rangeAt B 0 lb
theorem Ctx.next {w W w' : World} {A C B : Nat} {la lc lb : List Value} (K : Ctx w A C B la lc lb W) (hb : Below W.heap.size W w') : Ctx w A C B la lc lb w' :=
  ⟨K.below.trans (hb.mono K.below.size), Nat.lt_of_lt_of_le K.hA hb.size, Nat.lt_of_lt_of_le K.hC hb.size, Nat.lt_of_lt_of_le K.hB hb.size, rangeAt_below K.a hb K.hA, rangeAt_below K.c hb K.hC, rangeAt_below K.b hb K.hB⟩
theorem Ctx.alloc {w W : World} {A C B : Nat} {la lc lb : List Value} (K : Ctx w A C B la lc lb W) (z : Obj) : Ctx w A C B la lc lb (W.alloc z) := K.next ((Below.refl _ _).alloc (Nat.le_refl _) z)
theorem Ctx.drew {w W : World} {A C B : Nat} {la lc lb : List Value} (K : Ctx w A C B la lc lb W) : Ctx w A C B la lc lb W.drew := K.next (Below.refl _ _).drew
theorem Ctx.store {w W : World} {A C B : Nat} {la lc lb : List Value} (K : Ctx w A C B la lc lb W) {D : Nat} (h1 : A ≠ D) (h2 : C ≠ D) (h3 : B ≠ D) (h4 : w.heap.size ≤ D) (vs : List Value) : Ctx w A C B la lc lb (W.setCells D 0 vs) :=
  have hs : (W.setCells D 0 vs).heap.size = W.heap.size := setCells_size _ _ _ _
  ⟨setCells_below _ _ _ K.below h4, by rw [hs]; exact K.hA, by rw [hs]; exact K.hC, by rw [hs]; exact K.hB, World.rangeAt_setCells_apart K.a D 0 vs (Or.inl h1), World.rangeAt_setCells_apart K.c D 0 vs (Or.inl h2), World.rangeAt_setCells_apart K.b D 0 vs (Or.inl h3)⟩
end Go.Proofs.YtmcokdiopcpifaaDoor
namespace Go.Proofs.YtmcokdiopcpifaaDoor
open Go.RowKit Pol
/-- The places of an array, one by one. -/
def eqPlaces (d : Nat) (e : TypeId) (n : Nat) (xs ys : Array Value) : List Nat → Sem Bool
  | [] => pure true
  | i :: is => do
    let a ← part e xs (i * n)
    let b ← part e ys (i * n)
    let r ← Op.equalIn d e a b
    if (!r) = true then pure false else eqPlaces d e n xs ys is
theorem run_equalIn_array {P : Program} (w : World) (d : Nat) (t e : TypeId) (len n : Nat) (xs ys : Array Value) (ht : P.underlying t = some (.array len e)) (hn : (sizeOf e).run P w = .ok n w) :
    (Op.equalIn (d + 1) t (.agg xs) (.agg ys)).run P w = (eqPlaces d e n xs ys (List.range len)).run P w := by
  simp only [Op.equalIn, Sem.run_bind, run_underlying ht, Result.andThen_ok, hn]
  simp only [Std.Legacy.Range.forIn_eq_forIn_range', Std.Legacy.Range.size, Nat.sub_zero, Nat.add_one_sub_one, Nat.div_one, List.range_eq_range']
  generalize List.range' 0 len = is
  clear ht hn
  induction is generalizing w with
  | nil => simp [eqPlaces]
  | cons i is ih =>
    simp only [List.forIn_cons, eqPlaces, Sem.run_bind, Sem.run_ite]
    generalize (part e xs (i * n)).run P w = r1
    cases r1 with
    | ok a w1 =>
      simp only [Result.andThen_ok]
      generalize (part e ys (i * n)).run P w1 = r2
      cases r2 with
      | ok b w2 =>
        simp only [Result.andThen_ok]
        generalize (Op.equalIn d e a b).run P w2 = r3
        cases r3 with
        | ok r w3 =>
          cases r
          · simp only [Result.andThen_ok, Bool.not_false, if_true, Sem.run_pure]
          · simp only [Result.andThen_ok, Bool.not_true, Bool.false_eq_true, if_false, Sem.run_pure]
            exact ih w3
        | halt x w3 => simp [Result.andThen]
      | halt x w2 => simp [Result.andThen]
    | halt x w1 => simp [Result.andThen]
end Go.Proofs.YtmcokdiopcpifaaDoor
namespace Go.Proofs.YtmcokdiopcpifaaDoor
open Go.RowKit Pol
def frB (a b : Fr) : Bool := a.re == b.re && (a.im == b.im && a.den == b.den)
theorem frB_iff {a b : Fr} : frB a b = true ↔ a = b := by
  obtain ⟨a1, a2, a3⟩ := a
  obtain ⟨b1, b2, b3⟩ := b
  simp [frB]
def m4B (m n : M4) : Bool := frB m.a n.a && (frB m.b n.b && (frB m.c n.c && frB m.d n.d))
theorem m4B_iff {m n : M4} : m4B m n = true ↔ m = n := by
  obtain ⟨a1, a2, a3, a4⟩ := m
  obtain ⟨b1, b2, b3, b4⟩ := n
  simp [m4B, frB_iff]
set_option maxRecDepth 100000 in
theorem eqFr_run (a b : Fr) (d : Nat) (w : World) : (Op.equalIn (d + 2) 23 (.agg #[.int .i64 a.re, .int .i64 a.im, .int .i64 a.den]) (.agg #[.int .i64 b.re, .int .i64 b.im, .int .i64 b.den])).run Tryd.prog w = .ok (frB a b) w := by
  rw [run_equalIn_agg w (d + 1) 23 _ _ (by kernel_rfl) (by kernel_rfl)]
  by_cases h1 : a.re = b.re <;> by_cases h2 : a.im = b.im <;> by_cases h3 : a.den = b.den <;> simp [go_sem, Tryd.underlying23, frB, h1, h2, h3]
set_option maxRecDepth 100000 in
theorem eqPl_step (d : Nat) (xs ys : Array Value) (i : Nat) (is : List Nat) (a b : Fr) (w : World) (hx : (part 23 xs (i * 3)).run Tryd.prog w = .ok (.agg #[.int .i64 a.re, .int .i64 a.im, .int .i64 a.den]) w) (hy : (part 23 ys (i * 3)).run Tryd.prog w = .ok (.agg #[.int .i64 b.re, .int .i64 b.im, .int .i64 b.den]) w) :
    (eqPlaces (d + 2) 23 3 xs ys (i :: is)).run Tryd.prog w = if frB a b = true then (eqPlaces (d + 2) 23 3 xs ys is).run Tryd.prog w else .ok false w := by
  simp only [eqPlaces, Sem.run_bind, hx, hy, Result.andThen_ok, eqFr_run a b d w, Sem.run_ite]
  cases frB a b <;> simp
set_option maxRecDepth 100000 in
theorem eqArr_run (m n : M4) (d : Nat) (w : World) : (Op.equalIn (d + 3) 39 (.agg #[.int .i64 m.a.re, .int .i64 m.a.im, .int .i64 m.a.den, .int .i64 m.b.re, .int .i64 m.b.im, .int .i64 m.b.den, .int .i64 m.c.re, .int .i64 m.c.im, .int .i64 m.c.den, .int .i64 m.d.re, .int .i64 m.d.im, .int .i64 m.d.den]) (.agg #[.int .i64 n.a.re, .int .i64 n.a.im, .int .i64 n.a.den, .int .i64 n.b.re, .int .i64 n.b.im, .int .i64 n.b.den, .int .i64 n.c.re, .int .i64 n.c.im, .int .i64 n.c.den, .int .i64 n.d.re, .int .i64 n.d.im, .int .i64 n.d.den])).run Tryd.prog w = .ok (m4B m n) w := by
  rw [run_equalIn_array w (d + 2) 39 23 4 3 _ _ Tryd.underlying39 (by rfl)]
  show (eqPlaces (d + 2) 23 3 _ _ [0, 1, 2, 3]).run Tryd.prog w = _
  rw [eqPl_step d _ _ 0 _ m.a n.a w (by simp [go_sem]) (by simp [go_sem]), eqPl_step d _ _ 1 _ m.b n.b w (by simp [go_sem]) (by simp [go_sem]), eqPl_step d _ _ 2 _ m.c n.c w (by simp [go_sem]) (by simp [go_sem]), eqPl_step d _ _ 3 _ m.d n.d w (by simp [go_sem]) (by simp [go_sem])]
  unfold m4B
  cases frB m.a n.a <;> cases frB m.b n.b <;> cases frB m.c n.c <;> cases frB m.d n.d <;> simp [eqPlaces]
set_option maxRecDepth 100000 in
theorem eqMatB_run (m n : M4) (d : Nat) (w : World) : (Op.equalIn (d + 5) 41 (.agg #[.int .i64 m.a.re, .int .i64 m.a.im, .int .i64 m.a.den, .int .i64 m.b.re, .int .i64 m.b.im, .int .i64 m.b.den, .int .i64 m.c.re, .int .i64 m.c.im, .int .i64 m.c.den, .int .i64 m.d.re, .int .i64 m.d.im, .int .i64 m.d.den]) (.agg #[.int .i64 n.a.re, .int .i64 n.a.im, .int .i64 n.a.den, .int .i64 n.b.re, .int .i64 n.b.im, .int .i64 n.b.den, .int .i64 n.c.re, .int .i64 n.c.im, .int .i64 n.c.den, .int .i64 n.d.re, .int .i64 n.d.im, .int .i64 n.d.den])).run Tryd.prog w = .ok (m4B m n) w := by
  rw [run_equalIn_agg w (d + 4) 41 _ _ (by kernel_rfl) (by kernel_rfl)]
  simp [go_sem, Tryd.underlying41]
  rw [eqArr_run m n (d + 1) w]
  cases m4B m n <;> simp
set_option maxRecDepth 100000 in
theorem eqMat_run (m : M4) (w : World) : (Op.equalIn 10000 41 (.agg #[.int .i64 m.a.re, .int .i64 m.a.im, .int .i64 m.a.den, .int .i64 m.b.re, .int .i64 m.b.im, .int .i64 m.b.den, .int .i64 m.c.re, .int .i64 m.c.im, .int .i64 m.c.den, .int .i64 m.d.re, .int .i64 m.d.im, .int .i64 m.d.den]) (.agg #[.int .i64 m.a.re, .int .i64 m.a.im, .int .i64 m.a.den, .int .i64 m.b.re, .int .i64 m.b.im, .int .i64 m.b.den, .int .i64 m.c.re, .int .i64 m.c.im, .int .i64 m.c.den, .int .i64 m.d.re, .int .i64 m.d.im, .int .i64 m.d.den])).run Tryd.prog w = .ok true w := by
  rw [eqMatB_run m m 9995 w, m4B_iff.2 rfl]
end Go.Proofs.YtmcokdiopcpifaaDoor
namespace Go.Proofs.YtmcokdiopcpifaaDoor
open Go.ChangeShapes Go.WideShapes Go.ChangeAt Go.RowKit Pol
/-- The code's bytes, read. -/
theorem open_code {H : Type} {enc : TypeId × Value → H} {W : World} {fuel : Nat} {a0 : Option Addr} {len cap : Nat} {x : DataW H × List MemPlace}
    (hf : DataW.trod enc Tryd.prog W 0 (fun _ => true) true fuel 55 (Value.cells (.slice a0 len cap)).toList = some x) (hlt : ∀ y ∈ x.2, y.block < W.heap.size) : len ≤ cap ∧ Code W.heap.size W a0 len := by
  rcases open_ints Tryd.underlying55 Tryd.underlying5 (by kernel_rfl) hf with ⟨hcs, hx⟩ | ⟨a, len', cap', zs, hcs, _, hl, hm, hz, hx, hcell, hwz⟩
  · replace hcs : [Value.slice a0 len cap] = _ := hcs
    simp at hcs
    obtain ⟨rfl, rfl, rfl⟩ := hcs
    exact ⟨Nat.le_refl _, fun i hi => absurd hi (Nat.not_lt_zero _)⟩
  · replace hcs : [Value.slice a0 len cap] = _ := hcs
    simp at hcs
    obtain ⟨rfl, rfl, rfl⟩ := hcs
    subst hx
    refine ⟨hl, fun i hi => ?_⟩
    have hlen : i < zs.length := by rw [hz]; split <;> omega
    obtain ⟨b, off, spot⟩ := a
    have hs0 := World.cell?_spot (hcell 0 (by omega))
    have hspot : spot = none := by simpa [Addr.add] using hs0
    subst hspot
    have ha : (⟨b, off, none⟩ : Addr).add i = ⟨b, off + i, none⟩ := by cases i <;> simp [Addr.add]
    have hc := hcell i hlen
    rw [ha] at hc
    have hb : b < W.heap.size := hlt (.cell b (off + i)) (MemPlace.mem_row.2 ⟨i, hlen, by simp⟩)
    have hw := hwz (zs.getD i 0) (by rw [List.getD_eq_getElem?_getD, List.getElem?_eq_getElem hlen]; exact List.getElem_mem hlen)
    have hw' := bounds_u8 hw
    exact ⟨b, off, rfl, hb, zs.getD i 0, hw'.1, by omega, hc⟩
theorem hd {p : Prop} (h : p) : Hid p := h
end Go.Proofs.YtmcokdiopcpifaaDoor
namespace Go.Proofs.YtmcokdiopcpifaaDoor
open Go.ChangeShapes Go.WideShapes Go.ChangeAt Go.RowKit Pol
/-- Block g holds the n fractions f. -/
structure Gat (w : World) (g : Nat) (f : Nat → Fr) (n : Nat) : Prop where
  lt : g < w.heap.size
  box : BoxAt w g f n
theorem Gat.below {w w' : World} {g n : Nat} {f : Nat → Fr} (h : Gat w g f n) (hb : Below w.heap.size w w') : Gat w' g f n := ⟨Nat.lt_of_lt_of_le h.lt hb.size, h.box.below hb h.lt⟩
theorem vars_len {H : Type} {enc : TypeId × Value → H} {P : Program} {W : World} {sp : Nat → Bool} : ∀ {ns : List String} {gs : List (DataW H)} {ps : List MemPlace}, DataW.TrodVars enc P W sp ns gs ps → gs.length = ns.length
  | [], [], _, _ => rfl
  | [], _ :: _, _, h => h.elim
  | _ :: _, [], _, h => h.elim
  | _ :: _, _ :: _, _, h => by
    obtain ⟨_, _, _, _, _, _, _, _, _, _, hs, _⟩ := h
    simpa using vars_len hs
theorem len4 {α : Type} {l : List α} (h : l.length = 4) : ∃ a b c d, l = [a, b, c, d] := match l, h with | [a, b, c, d], _ => ⟨a, b, c, d, rfl⟩
theorem laid_at {P : Program} {W : World} {n : String} {d : DataW Unit} : ∀ {l : List (String × DataW Unit)} {ps : List MemPlace}, DataW.LaidVars P W l ps → (n, d) ∈ l →
    ∃ g t cs fuel p, P.globalNamed n = some g ∧ (P.globals[g]?).map (·.type) = some t ∧ W.var? P n = some cs ∧ DataW.trod (fun _ => ()) P W 0 (fun _ => true) false fuel t cs.toList = some (d, p)
  | [], _, _, hm => by cases hm
  | (n', d') :: r, ps, h, hm => by
    obtain ⟨g, t, cs, fuel, p, q, e1, e2, e3, e4, hr, rfl⟩ := h
    rcases List.mem_cons.1 hm with e | hm
    · obtain ⟨rfl, rfl⟩ := Prod.mk.inj e
      exact ⟨g, t, cs, fuel, p, e1, e2, e3, e4⟩
    · exact laid_at hr hm
theorem var_lt {P : Program} {W : World} {n : String} {g : Nat} {cs : Array Value} (hg : P.globalNamed n = some g) (h : W.var? P n = some cs) : g < W.heap.size := by
  unfold World.var? at h
  rw [hg] at h
  simp only [Option.bind_some] at h
  cases hh : W.heap[g]? with
  | none => rw [hh] at h; cases h
  | some o => exact (Array.getElem?_eq_some_iff.1 hh).1
def FD (f : Fr) : DataW Unit := .agg [.lit (.int .i64 f.re), .lit (.int .i64 f.im), .lit (.int .i64 f.den)]
set_option maxRecDepth 100000 in
theorem int_of_trod {W : World} {fuel : Nat} {cs : List Value} {z : Int} {y : DataW Unit × List MemPlace} (h : DataW.trod (fun _ => ()) Tryd.prog W 0 (fun _ => true) false fuel 3 cs = some y) (e : y.1 = .lit (.int .i64 z)) : cs = [.int .i64 z] := by
  obtain ⟨n, rfl, rfl, _⟩ := DataW.trod_int Tryd.underlying3 h
  simp only [DataW.lit.injEq, Lit.int.injEq] at e
  rw [e.2]
set_option maxRecDepth 100000 in
theorem fr_of_trod {W : World} {fuel : Nat} {cs : List Value} {f : Fr} {y : DataW Unit × List MemPlace} (h : DataW.trod (fun _ => ()) Tryd.prog W 0 (fun _ => true) false fuel 23 cs = some y) (e : y.1 = FD f) : cs = [.int .i64 f.re, .int .i64 f.im, .int .i64 f.den] := by
  obtain ⟨y0, y1, y2, n, rfl, hl, h0, h1, h2⟩ := Go.Deep.trod_struct3 Tryd.underlying23 h
  have c3 : Tryd.prog.cellsOf 23 = 3 := by kernel_rfl
  have c1 : Tryd.prog.cellsOf 3 = 1 := by kernel_rfl
  rw [c3] at hl
  simp only [FD, DataW.agg.injEq, List.cons.injEq, and_true] at e
  match cs, hl with
  | [a, b, c], _ =>
    have k0 := int_of_trod h0 e.1
    have k1 := int_of_trod h1 e.2.1
    have k2 := int_of_trod h2 e.2.2
    rw [c1] at k0 k1 k2
    simp at k0 k1 k2
    rw [k0, k1, k2]
set_option maxRecDepth 100000 in
theorem arr_of_trod {W : World} {fuel : Nat} {cs : List Value} {m : M4} {y : DataW Unit × List MemPlace} (h : DataW.trod (fun _ => ()) Tryd.prog W 0 (fun _ => true) false fuel 39 cs = some y) (e : y.1 = .agg [FD m.a, FD m.b, FD m.c, FD m.d]) : cs = [.int .i64 m.a.re, .int .i64 m.a.im, .int .i64 m.a.den, .int .i64 m.b.re, .int .i64 m.b.im, .int .i64 m.b.den, .int .i64 m.c.re, .int .i64 m.c.im, .int .i64 m.c.den, .int .i64 m.d.re, .int .i64 m.d.im, .int .i64 m.d.den] := by
  obtain ⟨xs, m1, rfl, rfl, hlen, hn, hel⟩ := DataW.trod_array Tryd.underlying39 h
  have c3 : Tryd.prog.cellsOf 23 = 3 := by kernel_rfl
  have c12 : Tryd.prog.cellsOf 39 = 12 := by kernel_rfl
  rw [c12] at hlen
  rw [c3] at hel
  match xs, hn with
  | [x0, x1, x2, x3], _ =>
    simp only [List.map_cons, List.map_nil, DataW.agg.injEq, List.cons.injEq, and_true] at e
    match cs, hlen with
    | [v0, v1, v2, v3, v4, v5, v6, v7, v8, v9, v10, v11], _ =>
      have k0 := fr_of_trod (hel 0 (by omega)) e.1
      have k1 := fr_of_trod (hel 1 (by omega)) e.2.1
      have k2 := fr_of_trod (hel 2 (by omega)) e.2.2.1
      have k3 := fr_of_trod (hel 3 (by omega)) e.2.2.2
      simp at k0 k1 k2 k3
      simp [k0, k1, k2, k3]
set_option maxRecDepth 100000 in
theorem mat_of_trod {W : World} {fuel : Nat} {cs : List Value} {m : M4} {y : DataW Unit × List MemPlace} (h : DataW.trod (fun _ => ()) Tryd.prog W 0 (fun _ => true) false fuel 41 cs = some y) (e : y.1 = .agg [.agg [FD m.a, FD m.b, FD m.c, FD m.d]]) : cs = [.int .i64 m.a.re, .int .i64 m.a.im, .int .i64 m.a.den, .int .i64 m.b.re, .int .i64 m.b.im, .int .i64 m.b.den, .int .i64 m.c.re, .int .i64 m.c.im, .int .i64 m.c.den, .int .i64 m.d.re, .int .i64 m.d.im, .int .i64 m.d.den] := by
  obtain ⟨y0, n, rfl, hl, h0⟩ := trod_struct1 Tryd.underlying41 h
  have c12 : Tryd.prog.cellsOf 39 = 12 := by kernel_rfl
  have c12' : Tryd.prog.cellsOf 41 = 12 := by kernel_rfl
  rw [c12'] at hl
  simp only [DataW.agg.injEq, List.cons.injEq, and_true] at e
  have k := arr_of_trod h0 e
  rw [c12] at k
  rw [← k]
  simp only [List.drop_zero]
  rw [List.take_of_length_le (by omega)]
set_option maxRecDepth 100000 in
theorem gat_of {W : World} {n : String} {g : Nat} {cs : Array Value} {f : Nat → Fr} {k : Nat} {l : List Value} (hg : Tryd.prog.globalNamed n = some g) (hv : W.var? Tryd.prog n = some cs) (hl : cs.toList = l) (hk : ∀ j, j < k → l[j * 3]? = some (.int .i64 (f j).re) ∧ l[j * 3 + 1]? = some (.int .i64 (f j).im) ∧ l[j * 3 + 2]? = some (.int .i64 (f j).den)) : Gat W g f k := by
  refine ⟨var_lt hg hv, fun j hj => ?_⟩
  obtain ⟨h0, h1, h2⟩ := hk j hj
  have hc := fun i => World.var?_cell hg hv i
  have e : ∀ i : Nat, cs[i]? = l[i]? := fun i => by rw [← hl]; exact Array.getElem?_toList.symm
  exact ⟨(hc _).trans ((e _).trans h0), (hc _).trans ((e _).trans h1), (hc _).trans ((e _).trans h2)⟩
def pI : Fr := ⟨0, 1, 1⟩
def pM : Fr := ⟨-1, 0, 1⟩
def pN : Fr := ⟨0, -1, 1⟩
def mSame : M4 := ⟨f1, f0, f0, f1⟩
def mTurns : M4 := ⟨f1, pI, pM, pN⟩
def ixF (f : Fr) : Nat → Fr := fun _ => f
set_option maxRecDepth 100000 in
theorem gat_zero {l : List (String × DataW Unit)} {W : World} (h : laidMetH Tryd.prog l W) (hp : (l.all fun x => x.2.handleName?.isNone) = true) (hm : ("loop.example/polarisedlight/impl.zero", DataW.agg [.lit (.int .i64 0), .lit (.int .i64 0), .lit (.int .i64 1)]) ∈ l) : Gat W 1 (ixF f0) 1 := by
  rw [MakeChecks.laidMetH_plain _ _ _ hp] at h
  obtain ⟨ps, hv, -, -⟩ := h
  obtain ⟨g, t, cs, fuel, p, e1, e2, e3, e4⟩ := laid_at hv hm
  obtain rfl := Option.some.inj ((show Tryd.prog.globalNamed "loop.example/polarisedlight/impl.zero" = some 1 by kernel_rfl).symm.trans e1)
  obtain rfl := Option.some.inj ((show (Tryd.prog.globals[1]?).map (·.type) = some 23 by kernel_rfl).symm.trans e2)
  refine gat_of e1 e3 (fr_of_trod (f := f0) e4 rfl) (fun j hj => ?_)
  obtain rfl : j = 0 := by omega
  exact ⟨rfl, rfl, rfl⟩
set_option maxRecDepth 100000 in
theorem gat_one {l : List (String × DataW Unit)} {W : World} (h : laidMetH Tryd.prog l W) (hp : (l.all fun x => x.2.handleName?.isNone) = true) (hm : ("loop.example/polarisedlight/impl.one", DataW.agg [.lit (.int .i64 1), .lit (.int .i64 0), .lit (.int .i64 1)]) ∈ l) : Gat W 0 (ixF f1) 1 := by
  rw [MakeChecks.laidMetH_plain _ _ _ hp] at h
  obtain ⟨ps, hv, -, -⟩ := h
  obtain ⟨g, t, cs, fuel, p, e1, e2, e3, e4⟩ := laid_at hv hm
  obtain rfl := Option.some.inj ((show Tryd.prog.globalNamed "loop.example/polarisedlight/impl.one" = some 0 by kernel_rfl).symm.trans e1)
  obtain rfl := Option.some.inj ((show (Tryd.prog.globals[0]?).map (·.type) = some 23 by kernel_rfl).symm.trans e2)
  refine gat_of e1 e3 (fr_of_trod (f := f1) e4 rfl) (fun j hj => ?_)
  obtain rfl : j = 0 := by omega
  exact ⟨rfl, rfl, rfl⟩
set_option maxRecDepth 100000 in
theorem gat_turns {l : List (String × DataW Unit)} {W : World} (h : laidMetH Tryd.prog l W) (hp : (l.all fun x => x.2.handleName?.isNone) = true) (hm : ("loop.example/polarisedlight/impl.turns", DataW.agg [.agg [.lit (.int .i64 1), .lit (.int .i64 0), .lit (.int .i64 1)], .agg [.lit (.int .i64 0), .lit (.int .i64 1), .lit (.int .i64 1)], .agg [.lit (.int .i64 (-1)), .lit (.int .i64 0), .lit (.int .i64 1)], .agg [.lit (.int .i64 0), .lit (.int .i64 (-1)), .lit (.int .i64 1)]]) ∈ l) : Gat W 3 mTurns.get 4 := by
  rw [MakeChecks.laidMetH_plain _ _ _ hp] at h
  obtain ⟨ps, hv, -, -⟩ := h
  obtain ⟨g, t, cs, fuel, p, e1, e2, e3, e4⟩ := laid_at hv hm
  obtain rfl := Option.some.inj ((show Tryd.prog.globalNamed "loop.example/polarisedlight/impl.turns" = some 3 by kernel_rfl).symm.trans e1)
  obtain rfl := Option.some.inj ((show (Tryd.prog.globals[3]?).map (·.type) = some 39 by kernel_rfl).symm.trans e2)
  refine gat_of e1 e3 (arr_of_trod (m := mTurns) e4 rfl) (fun j hj => ?_)
  have : j = 0 ∨ j = 1 ∨ j = 2 ∨ j = 3 := by omega
  rcases this with rfl | rfl | rfl | rfl <;> exact ⟨rfl, rfl, rfl⟩
set_option maxRecDepth 100000 in
theorem gat_same {l : List (String × DataW Unit)} {W : World} (h : laidMetH Tryd.prog l W) (hp : (l.all fun x => x.2.handleName?.isNone) = true) (hm : ("loop.example/polarisedlight/impl.same", DataW.agg [.agg [.agg [.lit (.int .i64 1), .lit (.int .i64 0), .lit (.int .i64 1)], .agg [.lit (.int .i64 0), .lit (.int .i64 0), .lit (.int .i64 1)], .agg [.lit (.int .i64 0), .lit (.int .i64 0), .lit (.int .i64 1)], .agg [.lit (.int .i64 1), .lit (.int .i64 0), .lit (.int .i64 1)]]]) ∈ l) : Gat W 4 mSame.get 4 := by
  rw [MakeChecks.laidMetH_plain _ _ _ hp] at h
  obtain ⟨ps, hv, -, -⟩ := h
  obtain ⟨g, t, cs, fuel, p, e1, e2, e3, e4⟩ := laid_at hv hm
  obtain rfl := Option.some.inj ((show Tryd.prog.globalNamed "loop.example/polarisedlight/impl.same" = some 4 by kernel_rfl).symm.trans e1)
  obtain rfl := Option.some.inj ((show (Tryd.prog.globals[4]?).map (·.type) = some 41 by kernel_rfl).symm.trans e2)
  refine gat_of e1 e3 (mat_of_trod (m := mSame) e4 rfl) (fun j hj => ?_)
  have : j = 0 ∨ j = 1 ∨ j = 2 ∨ j = 3 := by omega
  rcases this with rfl | rfl | rfl | rfl <;> exact ⟨rfl, rfl, rfl⟩
end Go.Proofs.YtmcokdiopcpifaaDoor
namespace Go.Proofs.YtmcokdiopcpifaaDoor
open Pol
theorem tdiv_small {a g b : Int} (h1 : -b ≤ a) (h2 : a ≤ b) : -b ≤ a.tdiv g ∧ a.tdiv g ≤ b := by
  have h : (a.tdiv g).natAbs ≤ a.natAbs := by rw [Int.natAbs_tdiv]; exact Nat.div_le_self _ _
  omega
/-- Small parts make a fraction. -/
theorem low_small {re den : Int} (h1 : -2000000000 ≤ re) (h2 : re ≤ 2000000000) (h3 : 1 ≤ den) (h4 : den ≤ 2000000000) : low re 0 den = ((low re 0 den).1, true) ∧ vld (low re 0 den).1 = true ∧ rv (low re 0 den).1 = (re : Rat) / (den : Rat) ∧ iv (low re 0 den).1 = 0 := by
  have hB : lowB re 0 den = true := by
    unfold lowB inP cut
    have a1 := tdiv_small (g := g3 re 0 den) h1 h2
    have a2 := tdiv_small (a := 0) (b := 2000000000) (g := g3 re 0 den) (by omega) (by omega)
    have a3 := tdiv_small (g := g3 re 0 den) (a := den) (b := 2000000000) (by omega) h4
    simp only [Bool.and_eq_true, decide_eq_true_eq]
    exact ⟨⟨a1, a2⟩, a3.2⟩
  have e : low re 0 den = (cut re 0 den, true) := by unfold low; rw [if_pos hB]
  rw [e]
  obtain ⟨k1, k2, k3⟩ := (low_ok h3).1 e
  refine ⟨rfl, k1, k2, ?_⟩
  rw [k3]
  show ((0 : Int) : Rat) / (den : Rat) = 0
  rw [Rat.intCast_zero, Rat.div_def, Rat.zero_mul]
theorem dir_ok {p q : Int} (h : dirB p q = true) : vld (dC p q) = true ∧ vld (dS p q) = true ∧ iv (dC p q) = 0 ∧ iv (dS p q) = 0 ∧ rv (dC p q) = ((p * p - q * q : Int) : Rat) / ((p * p + q * q : Int) : Rat) ∧ rv (dS p q) = ((2 * p * q : Int) : Rat) / ((p * p + q * q : Int) : Rat) ∧ rv (dC p q) * rv (dC p q) + rv (dS p q) * rv (dS p q) = 1 := by
  obtain ⟨⟨a, b⟩, ⟨c, d⟩, e⟩ := dir_bd h
  have s1 := sq_bd a b
  have s2 := sq_bd c d
  have s3 := pr_bd a b c d
  obtain ⟨-, v1, r1, i1⟩ := low_small (re := p * p - q * q) (den := p * p + q * q) (by omega) (by omega) e (by omega)
  obtain ⟨-, v2, r2, i2⟩ := low_small (re := 2 * p * q) (den := p * p + q * q) (by omega) (by omega) e (by omega)
  refine ⟨v1, v2, i1, i2, r1, r2, ?_⟩
  show rv (low (p * p - q * q) 0 (p * p + q * q)).1 * rv (low (p * p - q * q) 0 (p * p + q * q)).1 + rv (low (2 * p * q) 0 (p * p + q * q)).1 * rv (low (2 * p * q) 0 (p * p + q * q)).1 = 1
  rw [r1, r2]
  have hn : ((p * p + q * q : Int) : Rat) ≠ 0 := castInt_ne e
  have e1 : ((p * p - q * q : Int) : Rat) = (p : Rat) * p - (q : Rat) * q := by rw [Rat.intCast_sub, Rat.intCast_mul, Rat.intCast_mul]
  have e2 : ((2 * p * q : Int) : Rat) = 2 * (p : Rat) * q := by rw [Rat.intCast_mul, Rat.intCast_mul]; rfl
  have e3 : ((p * p + q * q : Int) : Rat) = (p : Rat) * p + (q : Rat) * q := by rw [Rat.intCast_add, Rat.intCast_mul, Rat.intCast_mul]
  rw [e1, e2, e3]
  rw [e3] at hn
  grind
theorem conj_real {a : Fr} (h : vld a = true) (hi : iv a = 0) : fConj a = a := by
  have := (iv_zero h).1 hi
  obtain ⟨x, y, z⟩ := a
  simp only at this
  subst this
  rfl
end Go.Proofs.YtmcokdiopcpifaaDoor
