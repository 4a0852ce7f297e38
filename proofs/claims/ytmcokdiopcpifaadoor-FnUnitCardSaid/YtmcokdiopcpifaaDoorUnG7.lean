/- Contracts: loops of the reference over four numbers. -/
import Derived.Test.YtmcokdiopcpifaaDoorUnK
import Derived.Test.YtmcokdiopcpifaaDoorUnG5
import Derived.Test.YtmcokdiopcpifaaDoorUnG1
import Derived.Test.YtmcokdiopcpifaaDoorUnPlain
import Derived.Laws.StructEq
import Derived.LaidMore
import Derived.OpenVars
import Derived.Deep.Strs
import Derived.MakeChecks
import Derived.LaidHandle
import Derived.Test.YtmcokdiopcpifaaDoorUnF
set_option maxRecDepth 100000
namespace Go.Proofs.YtmcokdiopcpifaaDoor
open Go.RowKit Pol
/-- Where the reference's loop stands: k places are done, and none was none. -/
structure SRel (W : World) (A B R O : Nat) (ga gb : Nat → Fr) (nb : Nat) (f : Nat → Fr × Bool) (k : Nat) (wr : World) : Prop where
  le : k ≤ 4
  below : Below W.heap.size W wr
  size : O + 1 ≤ wr.heap.size
  one : BoxAt wr A ga 4
  two : BoxAt wr B gb nb
  res : Room wr R 4
  room : Room wr O 4
  out : BoxAt wr O (fun i => (f i).1) k
  good : ∀ j, j < k → (f j).2 = true
structure Ord2 (W : World) (A B R O : Nat) : Prop where
  hA : A < O
  hB : B < O
  hR : R < O
  wO : W.heap.size ≤ O
theorem SRel.below' {W wr w1 : World} {A B R O : Nat} {ga gb : Nat → Fr} {nb : Nat} {f : Nat → Fr × Bool} {k : Nat} (h : SRel W A B R O ga gb nb f k wr) (o : Ord2 W A B R O) (hb : Below wr.heap.size wr w1) : SRel W A B R O ga gb nb f k w1 := by
  have hz := h.size
  obtain ⟨a1, a2, a3, a4⟩ := o
  exact ⟨h.le, h.below.trans (hb.mono h.below.size), Nat.le_trans hz hb.size, h.one.below hb (by omega), h.two.below hb (by omega), h.res.below hb (by omega), h.room.below hb (by omega), h.out.below hb (by omega), h.good⟩
theorem SRel.put {W w1 : World} {A B R O : Nat} {ga gb : Nat → Fr} {nb : Nat} {f : Nat → Fr × Bool} {k : Nat} (h : SRel W A B R O ga gb nb f k w1) (o : Ord2 W A B R O) (hk : k < 4) (hok : (f k).2 = true) : SRel W A B R O ga gb nb f (k + 1) (putF w1 O k (f k).1) := by
  obtain ⟨a1, a2, a3, a4⟩ := o
  refine ⟨hk, ((h.below.setCell a4 _).setCell a4 _).setCell a4 _, by rw [putF_size]; exact h.size, h.one.put_other (by omega) k _, h.two.put_other (by omega) k _, h.res.put _ _ _, h.room.put _ _ _, h.out.put h.room hk, fun j hj => ?_⟩
  rcases Nat.lt_or_ge j k with h3 | h3
  · exact h.good j h3
  · obtain rfl : j = k := by omega
    exact hok
theorem SRel.alloc {W w1 : World} {A B R O : Nat} {ga gb : Nat → Fr} {nb : Nat} {f : Nat → Fr × Bool} {k : Nat} (h : SRel W A B R O ga gb nb f k w1) (o : Ord2 W A B R O) (x : Obj) : SRel W A B R O ga gb nb f k (w1.alloc x) := h.below' o ((Below.refl _ _).alloc (Nat.le_refl _) x)
theorem SRel.drew {W wr : World} {A B R O : Nat} {ga gb : Nat → Fr} {nb : Nat} {f : Nat → Fr × Bool} {k : Nat} (h : SRel W A B R O ga gb nb f k wr) : SRel W A B R O ga gb nb f k wr.drew := ⟨h.le, h.below.drew, h.size, h.one, h.two, h.res, h.room, h.out, h.good⟩
end Go.Proofs.YtmcokdiopcpifaaDoor
namespace Go.Proofs.YtmcokdiopcpifaaDoor
open Go.RowKit Pol
/-- The loop that draws the four. -/
structure DRel (N R : Nat) (a0 : Option Addr) (len cap kk O : Nat) (w : World) (i : Nat) (wr : World) : Prop where
  le : i ≤ 4
  own : Own R w wr
  rd : Rd N R a0 len cap (kk + 20 * i) wr
  lo : w.heap.size < O
  hi : O < wr.heap.size
  res : Room wr w.heap.size 4
  room : Room wr O 4
  box : ∃ g : Nat → Fr, BoxAt wr O g i
def OpenOut (N : Nat) (a0 : Option Addr) (cap : Nat) (w : World) (e : Ending) (w' : World) : Prop := ∃ R len', e = .returned (.pointer (some ⟨R, 0, none⟩)) ∧ Below w.heap.size w w' ∧ w.heap.size ≤ R ∧ Rd N R a0 len' cap 0 w'
set_option maxHeartbeats 2000000 in
theorem open_any (N : Nat) (a0 : Option Addr) (len cap : Nat) (w : World) (hN : N ≤ w.heap.size) (hc : len ≤ cap) (HC : Code N w a0 len) :
    Calls Tryd.prog 82 #[.slice a0 len cap] w (OpenOut N a0 cap w) := by
  by_cases h : 2000 < len
  · obtain ⟨B, off, rfl, hB, -⟩ := HC 0 (by omega)
    have h1 : (2000 : Int) < (len : Int) := by omega
    have h2 : (2000 : Int) ≤ (cap : Int) := by omega
    have h3 : 2000 ≤ cap := by omega
    go_enter Tryd.func82, Tryd.ntmps82
    go_wp2
    go_ret
    refine ⟨w.heap.size, 2000, rfl, by (repeat' first | exact Below.refl _ _ | apply bl_alloc | apply bl_drewN | apply bl_drew | refine bl_trans ?_ (by assumption) | refine bl_set ?_ (by first | omega | (simp <;> omega)) _), Nat.le_refl _, ⟨by simp, hN, by simp [go_sem], ⟨0, by omega, by simp [go_sem]⟩, by simp [go_sem], by omega, ?_⟩⟩
    exact Code.keep (fun i hi => HC i (by omega)) fun B o hB => World.cell?_alloc_old _ _ _ (by show B ≠ w.heap.size; omega)
  · have h1 : ¬ (2000 : Int) < (len : Int) := by omega
    go_enter Tryd.func82, Tryd.ntmps82
    go_wp2
    go_ret
    refine ⟨w.heap.size, len, rfl, by (repeat' first | exact Below.refl _ _ | apply bl_alloc | apply bl_drewN | apply bl_drew | refine bl_trans ?_ (by assumption) | refine bl_set ?_ (by first | omega | (simp <;> omega)) _), Nat.le_refl _, ⟨by simp, hN, by simp [go_sem], ⟨0, by omega, by simp [go_sem]⟩, by simp [go_sem], by omega, ?_⟩⟩
    exact HC.keep fun B o hB => World.cell?_alloc_old _ _ _ (by show B ≠ w.heap.size; omega)
end Go.Proofs.YtmcokdiopcpifaaDoor
namespace Go.Proofs.YtmcokdiopcpifaaDoor
open Go.RowKit Pol
/-- The places of an array, one by one. -/
def eqPlaces (d : Nat) (e : TypeId) (n : Nat) (xs ys : Array Value) : List Nat → Sem Bool
  | [] => pure true
  | i :: is => do
    let a ← part e xs (i * n)
    let b ← part e ys (i * n)
    let r ← Op.equalIn d e a b
    if (!r) = true then pure false else eqPlaces d e n xs ys is
theorem run_equalIn_array {P : Program} (w : World) (d : Nat) (t e : TypeId) (len n : Nat) (xs ys : Array Value) (ht : P.underlying t = some (.array len e)) (hn : (sizeOf e).run P w = .ok n w) :
    (Op.equalIn (d + 1) t (.agg xs) (.agg ys)).run P w = (eqPlaces d e n xs ys (List.range len)).run P w := by
  simp only [Op.equalIn, Sem.run_bind, run_underlying ht, Result.andThen_ok, hn]
  simp only [Std.Legacy.Range.forIn_eq_forIn_range', Std.Legacy.Range.size, Nat.sub_zero, Nat.add_one_sub_one, Nat.div_one, List.range_eq_range']
  generalize List.range' 0 len = is
  clear ht hn
  induction is generalizing w with
  | nil => simp [eqPlaces]
  | cons i is ih =>
    simp only [List.forIn_cons, eqPlaces, Sem.run_bind, Sem.run_ite]
    generalize (part e xs (i * n)).run P w = r1
    cases r1 with
    | ok a w1 =>
      simp only [Result.andThen_ok]
      generalize (part e ys (i * n)).run P w1 = r2
      cases r2 with
      | ok b w2 =>
        simp only [Result.andThen_ok]
        generalize (Op.equalIn d e a b).run P w2 = r3
        cases r3 with
        | ok r w3 =>
          cases r
          · simp only [Result.andThen_ok, Bool.not_false, if_true, Sem.run_pure]
          · simp only [Result.andThen_ok, Bool.not_true, Bool.false_eq_true, if_false, Sem.run_pure]
            exact ih w3
        | halt x w3 => simp [Result.andThen]
      | halt x w2 => simp [Result.andThen]
    | halt x w1 => simp [Result.andThen]
set_option maxRecDepth 100000 in
theorem eqStokes_run (m : M4) (w : World) : (Op.equalIn 10000 51 (.agg #[.int .i64 m.a.re, .int .i64 m.a.im, .int .i64 m.a.den, .int .i64 m.b.re, .int .i64 m.b.im, .int .i64 m.b.den, .int .i64 m.c.re, .int .i64 m.c.im, .int .i64 m.c.den, .int .i64 m.d.re, .int .i64 m.d.im, .int .i64 m.d.den]) (.agg #[.int .i64 m.a.re, .int .i64 m.a.im, .int .i64 m.a.den, .int .i64 m.b.re, .int .i64 m.b.im, .int .i64 m.b.den, .int .i64 m.c.re, .int .i64 m.c.im, .int .i64 m.c.den, .int .i64 m.d.re, .int .i64 m.d.im, .int .i64 m.d.den])).run Tryd.prog w = .ok true w := by
  rw [run_equalIn_agg w 9999 51 _ _ (by kernel_rfl) (by kernel_rfl)]
  simp [go_sem, Tryd.underlying51]
  rw [run_equalIn_array w 9998 39 23 4 3 _ _ Tryd.underlying39 (by rfl)]
  simp [eqPlaces, go_sem, Tryd.underlying23, List.range, List.range.loop]
end Go.Proofs.YtmcokdiopcpifaaDoor
namespace Go.Proofs.YtmcokdiopcpifaaDoor
open Go.ChangeShapes Go.WideShapes Go.ChangeAt Go.RowKit Pol
/-- The code's bytes, read. -/
theorem open_code {H : Type} {enc : TypeId × Value → H} {W : World} {fuel : Nat} {a0 : Option Addr} {len cap : Nat} {x : DataW H × List MemPlace}
    (hf : DataW.trod enc Tryd.prog W 0 (fun _ => true) true fuel 55 (Value.cells (.slice a0 len cap)).toList = some x) (hlt : ∀ y ∈ x.2, y.block < W.heap.size) : len ≤ cap ∧ Code W.heap.size W a0 len := by
  rcases open_ints Tryd.underlying55 Tryd.underlying5 (by kernel_rfl) hf with ⟨hcs, hx⟩ | ⟨a, len', cap', zs, hcs, _, hl, hm, hz, hx, hcell, hwz⟩
  · replace hcs : [Value.slice a0 len cap] = _ := hcs
    simp at hcs
    obtain ⟨rfl, rfl, rfl⟩ := hcs
    exact ⟨Nat.le_refl _, fun i hi => absurd hi (Nat.not_lt_zero _)⟩
  · replace hcs : [Value.slice a0 len cap] = _ := hcs
    simp at hcs
    obtain ⟨rfl, rfl, rfl⟩ := hcs
    subst hx
    refine ⟨hl, fun i hi => ?_⟩
    have hlen : i < zs.length := by rw [hz]; split <;> omega
    obtain ⟨b, off, spot⟩ := a
    have hs0 := World.cell?_spot (hcell 0 (by omega))
    have hspot : spot = none := by simpa [Addr.add] using hs0
    subst hspot
    have ha : (⟨b, off, none⟩ : Addr).add i = ⟨b, off + i, none⟩ := by cases i <;> simp [Addr.add]
    have hc := hcell i hlen
    rw [ha] at hc
    have hb : b < W.heap.size := hlt (.cell b (off + i)) (MemPlace.mem_row.2 ⟨i, hlen, by simp⟩)
    have hw := hwz (zs.getD i 0) (by rw [List.getD_eq_getElem?_getD, List.getElem?_eq_getElem hlen]; exact List.getElem_mem hlen)
    have hw' := bounds_u8 hw
    exact ⟨b, off, rfl, hb, zs.getD i 0, hw'.1, by omega, hc⟩
theorem hd {p : Prop} (h : p) : Hid p := h
end Go.Proofs.YtmcokdiopcpifaaDoor
namespace Go.Proofs.YtmcokdiopcpifaaDoor
open Go.ChangeShapes Go.WideShapes Go.ChangeAt Go.RowKit Pol
/-- Block g holds the n fractions f. -/
structure Gat (w : World) (g : Nat) (f : Nat → Fr) (n : Nat) : Prop where
  lt : g < w.heap.size
  box : BoxAt w g f n
theorem Gat.below {w w' : World} {g n : Nat} {f : Nat → Fr} (h : Gat w g f n) (hb : Below w.heap.size w w') : Gat w' g f n := ⟨Nat.lt_of_lt_of_le h.lt hb.size, h.box.below hb h.lt⟩
theorem vars_len {H : Type} {enc : TypeId × Value → H} {P : Program} {W : World} {sp : Nat → Bool} : ∀ {ns : List String} {gs : List (DataW H)} {ps : List MemPlace}, DataW.TrodVars enc P W sp ns gs ps → gs.length = ns.length
  | [], [], _, _ => rfl
  | [], _ :: _, _, h => h.elim
  | _ :: _, [], _, h => h.elim
  | _ :: _, _ :: _, _, h => by
    obtain ⟨_, _, _, _, _, _, _, _, _, _, hs, _⟩ := h
    simpa using vars_len hs
theorem len1 {α : Type} {l : List α} (h : l.length = 1) : ∃ a, l = [a] := List.length_eq_one_iff.1 h
theorem laid_at {P : Program} {W : World} {n : String} {d : DataW Unit} : ∀ {l : List (String × DataW Unit)} {ps : List MemPlace}, DataW.LaidVars P W l ps → (n, d) ∈ l →
    ∃ g t cs fuel p, P.globalNamed n = some g ∧ (P.globals[g]?).map (·.type) = some t ∧ W.var? P n = some cs ∧ DataW.trod (fun _ => ()) P W 0 (fun _ => true) false fuel t cs.toList = some (d, p)
  | [], _, _, hm => by cases hm
  | (n', d') :: r, ps, h, hm => by
    obtain ⟨g, t, cs, fuel, p, q, e1, e2, e3, e4, hr, rfl⟩ := h
    rcases List.mem_cons.1 hm with e | hm
    · obtain ⟨rfl, rfl⟩ := Prod.mk.inj e
      exact ⟨g, t, cs, fuel, p, e1, e2, e3, e4⟩
    · exact laid_at hr hm
theorem var_lt {P : Program} {W : World} {n : String} {g : Nat} {cs : Array Value} (hg : P.globalNamed n = some g) (h : W.var? P n = some cs) : g < W.heap.size := by
  unfold World.var? at h
  rw [hg] at h
  simp only [Option.bind_some] at h
  cases hh : W.heap[g]? with
  | none => rw [hh] at h; cases h
  | some o => exact (Array.getElem?_eq_some_iff.1 hh).1
def FD (f : Fr) : DataW Unit := .agg [.lit (.int .i64 f.re), .lit (.int .i64 f.im), .lit (.int .i64 f.den)]
set_option maxRecDepth 100000 in
theorem int_of_trod {W : World} {fuel : Nat} {cs : List Value} {z : Int} {y : DataW Unit × List MemPlace} (h : DataW.trod (fun _ => ()) Tryd.prog W 0 (fun _ => true) false fuel 3 cs = some y) (e : y.1 = .lit (.int .i64 z)) : cs = [.int .i64 z] := by
  obtain ⟨n, rfl, rfl, _⟩ := DataW.trod_int Tryd.underlying3 h
  simp only [DataW.lit.injEq, Lit.int.injEq] at e
  rw [e.2]
set_option maxRecDepth 100000 in
theorem fr_of_trod {W : World} {fuel : Nat} {cs : List Value} {f : Fr} {y : DataW Unit × List MemPlace} (h : DataW.trod (fun _ => ()) Tryd.prog W 0 (fun _ => true) false fuel 23 cs = some y) (e : y.1 = FD f) : cs = [.int .i64 f.re, .int .i64 f.im, .int .i64 f.den] := by
  obtain ⟨y0, y1, y2, n, rfl, hl, h0, h1, h2⟩ := Go.Deep.trod_struct3 Tryd.underlying23 h
  have c3 : Tryd.prog.cellsOf 23 = 3 := by kernel_rfl
  have c1 : Tryd.prog.cellsOf 3 = 1 := by kernel_rfl
  rw [c3] at hl
  simp only [FD, DataW.agg.injEq, List.cons.injEq, and_true] at e
  match cs, hl with
  | [a, b, c], _ =>
    have k0 := int_of_trod h0 e.1
    have k1 := int_of_trod h1 e.2.1
    have k2 := int_of_trod h2 e.2.2
    rw [c1] at k0 k1 k2
    simp at k0 k1 k2
    rw [k0, k1, k2]
set_option maxRecDepth 100000 in
theorem gat_of {W : World} {n : String} {g : Nat} {cs : Array Value} {f : Nat → Fr} {k : Nat} {l : List Value} (hg : Tryd.prog.globalNamed n = some g) (hv : W.var? Tryd.prog n = some cs) (hl : cs.toList = l) (hk : ∀ j, j < k → l[j * 3]? = some (.int .i64 (f j).re) ∧ l[j * 3 + 1]? = some (.int .i64 (f j).im) ∧ l[j * 3 + 2]? = some (.int .i64 (f j).den)) : Gat W g f k := by
  refine ⟨var_lt hg hv, fun j hj => ?_⟩
  obtain ⟨h0, h1, h2⟩ := hk j hj
  have hc := fun i => World.var?_cell hg hv i
  have e : ∀ i : Nat, cs[i]? = l[i]? := fun i => by rw [← hl]; exact Array.getElem?_toList.symm
  exact ⟨(hc _).trans ((e _).trans h0), (hc _).trans ((e _).trans h1), (hc _).trans ((e _).trans h2)⟩
def ixF (f : Fr) : Nat → Fr := fun _ => f
set_option maxRecDepth 100000 in
theorem gat_zero {l : List (String × DataW Unit)} {W : World} (h : laidMetH Tryd.prog l W) (hp : (l.all fun x => x.2.handleName?.isNone) = true) (hm : ("loop.example/polarisedlight/impl.zero", DataW.agg [.lit (.int .i64 0), .lit (.int .i64 0), .lit (.int .i64 1)]) ∈ l) : Gat W 1 (ixF f0) 1 := by
  rw [MakeChecks.laidMetH_plain _ _ _ hp] at h
  obtain ⟨ps, hv, -, -⟩ := h
  obtain ⟨g, t, cs, fuel, p, e1, e2, e3, e4⟩ := laid_at hv hm
  obtain rfl := Option.some.inj ((show Tryd.prog.globalNamed "loop.example/polarisedlight/impl.zero" = some 1 by kernel_rfl).symm.trans e1)
  obtain rfl := Option.some.inj ((show (Tryd.prog.globals[1]?).map (·.type) = some 23 by kernel_rfl).symm.trans e2)
  refine gat_of e1 e3 (fr_of_trod (f := f0) e4 rfl) (fun j hj => ?_)
  obtain rfl : j = 0 := by omega
  exact ⟨rfl, rfl, rfl⟩
end Go.Proofs.YtmcokdiopcpifaaDoor
namespace Go.Proofs.YtmcokdiopcpifaaDoor
open Go.RowKit Pol
/-- What a call hands back that makes the two fractions of a direction. -/
def DirOut (p q : Int) (w : World) (e : Ending) (w' : World) : Prop :=
  e = .returned (if dirB p q = true then .tuple #[.agg #[.int .i64 (dC p q).re, .int .i64 (dC p q).im, .int .i64 (dC p q).den], .agg #[.int .i64 (dS p q).re, .int .i64 (dS p q).im, .int .i64 (dS p q).den], .bool true] else .tuple #[.agg #[.int .i64 0, .int .i64 0, .int .i64 0], .agg #[.int .i64 0, .int .i64 0, .int .i64 0], .bool false]) ∧ Below w.heap.size w w'
theorem DirOut.yes {p q : Int} {w w' : World} (h : dirB p q = true) (hb : Below w.heap.size w w') : DirOut p q w (.returned (.tuple #[.agg #[.int .i64 (dC p q).re, .int .i64 (dC p q).im, .int .i64 (dC p q).den], .agg #[.int .i64 (dS p q).re, .int .i64 (dS p q).im, .int .i64 (dS p q).den], .bool true])) w' := ⟨by rw [if_pos h], hb⟩
theorem DirOut.no {p q : Int} {w w' : World} (h : dirB p q = false) (hb : Below w.heap.size w w') : DirOut p q w (.returned (.tuple #[.agg #[.int .i64 0, .int .i64 0, .int .i64 0], .agg #[.int .i64 0, .int .i64 0, .int .i64 0], .bool false])) w' := ⟨by rw [if_neg (by rw [h]; simp)], hb⟩
end Go.Proofs.YtmcokdiopcpifaaDoor
namespace Go.Proofs.YtmcokdiopcpifaaDoor
open Go.RowKit Pol
theorem DirOut.f {p q : Int} {w w' : World} {e : Ending} (h : DirOut p q w e w') (hd : dirB p q = false) : e = .returned (.tuple #[.agg #[.int .i64 0, .int .i64 0, .int .i64 0], .agg #[.int .i64 0, .int .i64 0, .int .i64 0], .bool false]) ∧ Below w.heap.size w w' := ⟨by rw [h.1, if_neg (by rw [hd]; simp)], h.2⟩
theorem DirOut.t {p q : Int} {w w' : World} {e : Ending} (h : DirOut p q w e w') (hd : dirB p q = true) : e = .returned (.tuple #[.agg #[.int .i64 (dC p q).re, .int .i64 (dC p q).im, .int .i64 (dC p q).den], .agg #[.int .i64 (dS p q).re, .int .i64 (dS p q).im, .int .i64 (dS p q).den], .bool true]) ∧ Below w.heap.size w w' := ⟨by rw [h.1, if_pos hd], h.2⟩
theorem Room.drew {w : World} {N n : Nat} (h : Room w N n) : Room w.drew N n := h
end Go.Proofs.YtmcokdiopcpifaaDoor
