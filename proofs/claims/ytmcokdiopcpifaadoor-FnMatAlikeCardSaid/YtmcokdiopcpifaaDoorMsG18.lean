/- Comparing a struct with itself, where it holds an array. -/
import Derived.Test.YtmcokdiopcpifaaDoorMsG1
import Derived.Test.YtmcokdiopcpifaaDoorMsPlain
import Derived.Laws.StructEq
import Derived.Test.YtmcokdiopcpifaaDoorMsG3
import Derived.Test.YtmcokdiopcpifaaDoorMsDM2
import Derived.LaidMore
import Derived.OpenVars
import Derived.Deep.Strs
import Derived.MakeChecks
import Derived.LaidHandle
import Derived.Test.YtmcokdiopcpifaaDoorMsK
import Derived.Deep.RegionLaw
import Derived.Deep.DeepCutAuto
import Derived.Test.YtmcokdiopcpifaaDoorMsG7
import Derived.Test.YtmcokdiopcpifaaDoorMsG12
import Derived.Test.YtmcokdiopcpifaaDoorMsN
import Derived.Test.YtmcokdiopcpifaaDoorMsK4
set_option maxRecDepth 100000
namespace Go.Proofs.YtmcokdiopcpifaaDoor
open Go.RowKit Pol
/-- The places of an array, one by one. -/
def eqPlaces (d : Nat) (e : TypeId) (n : Nat) (xs ys : Array Value) : List Nat → Sem Bool
  | [] => pure true
  | i :: is => do
    let a ← part e xs (i * n)
    let b ← part e ys (i * n)
    let r ← Op.equalIn d e a b
    if (!r) = true then pure false else eqPlaces d e n xs ys is
theorem run_equalIn_array {P : Program} (w : World) (d : Nat) (t e : TypeId) (len n : Nat) (xs ys : Array Value) (ht : P.underlying t = some (.array len e)) (hn : (sizeOf e).run P w = .ok n w) :
    (Op.equalIn (d + 1) t (.agg xs) (.agg ys)).run P w = (eqPlaces d e n xs ys (List.range len)).run P w := by
  simp only [Op.equalIn, Sem.run_bind, run_underlying ht, Result.andThen_ok, hn]
  simp only [Std.Legacy.Range.forIn_eq_forIn_range', Std.Legacy.Range.size, Nat.sub_zero, Nat.add_one_sub_one, Nat.div_one, List.range_eq_range']
  generalize List.range' 0 len = is
  clear ht hn
  induction is generalizing w with
  | nil => simp [eqPlaces]
  | cons i is ih =>
    simp only [List.forIn_cons, eqPlaces, Sem.run_bind, Sem.run_ite]
    generalize (part e xs (i * n)).run P w = r1
    cases r1 with
    | ok a w1 =>
      simp only [Result.andThen_ok]
      generalize (part e ys (i * n)).run P w1 = r2
      cases r2 with
      | ok b w2 =>
        simp only [Result.andThen_ok]
        generalize (Op.equalIn d e a b).run P w2 = r3
        cases r3 with
        | ok r w3 =>
          cases r
          · simp only [Result.andThen_ok, Bool.not_false, if_true, Sem.run_pure]
          · simp only [Result.andThen_ok, Bool.not_true, Bool.false_eq_true, if_false, Sem.run_pure]
            exact ih w3
        | halt x w3 => simp [Result.andThen]
      | halt x w2 => simp [Result.andThen]
    | halt x w1 => simp [Result.andThen]
end Go.Proofs.YtmcokdiopcpifaaDoor
namespace Go.Proofs.YtmcokdiopcpifaaDoor
open Go.RowKit Pol
def frB (a b : Fr) : Bool := a.re == b.re && (a.im == b.im && a.den == b.den)
theorem frB_iff {a b : Fr} : frB a b = true ↔ a = b := by
  obtain ⟨a1, a2, a3⟩ := a
  obtain ⟨b1, b2, b3⟩ := b
  simp [frB]
def m4B (m n : M4) : Bool := frB m.a n.a && (frB m.b n.b && (frB m.c n.c && frB m.d n.d))
theorem m4B_iff {m n : M4} : m4B m n = true ↔ m = n := by
  obtain ⟨a1, a2, a3, a4⟩ := m
  obtain ⟨b1, b2, b3, b4⟩ := n
  simp [m4B, frB_iff]
set_option maxRecDepth 100000 in
theorem eqFr_run (a b : Fr) (d : Nat) (w : World) : (Op.equalIn (d + 2) 23 (.agg #[.int .i64 a.re, .int .i64 a.im, .int .i64 a.den]) (.agg #[.int .i64 b.re, .int .i64 b.im, .int .i64 b.den])).run Tryd.prog w = .ok (frB a b) w := by
  rw [run_equalIn_agg w (d + 1) 23 _ _ (by kernel_rfl) (by kernel_rfl)]
  by_cases h1 : a.re = b.re <;> by_cases h2 : a.im = b.im <;> by_cases h3 : a.den = b.den <;> simp [go_sem, Tryd.underlying23, frB, h1, h2, h3]
set_option maxRecDepth 100000 in
theorem eqPl_step (d : Nat) (xs ys : Array Value) (i : Nat) (is : List Nat) (a b : Fr) (w : World) (hx : (part 23 xs (i * 3)).run Tryd.prog w = .ok (.agg #[.int .i64 a.re, .int .i64 a.im, .int .i64 a.den]) w) (hy : (part 23 ys (i * 3)).run Tryd.prog w = .ok (.agg #[.int .i64 b.re, .int .i64 b.im, .int .i64 b.den]) w) :
    (eqPlaces (d + 2) 23 3 xs ys (i :: is)).run Tryd.prog w = if frB a b = true then (eqPlaces (d + 2) 23 3 xs ys is).run Tryd.prog w else .ok false w := by
  simp only [eqPlaces, Sem.run_bind, hx, hy, Result.andThen_ok, eqFr_run a b d w, Sem.run_ite]
  cases frB a b <;> simp
set_option maxRecDepth 100000 in
theorem eqArr_run (m n : M4) (d : Nat) (w : World) : (Op.equalIn (d + 3) 39 (.agg #[.int .i64 m.a.re, .int .i64 m.a.im, .int .i64 m.a.den, .int .i64 m.b.re, .int .i64 m.b.im, .int .i64 m.b.den, .int .i64 m.c.re, .int .i64 m.c.im, .int .i64 m.c.den, .int .i64 m.d.re, .int .i64 m.d.im, .int .i64 m.d.den]) (.agg #[.int .i64 n.a.re, .int .i64 n.a.im, .int .i64 n.a.den, .int .i64 n.b.re, .int .i64 n.b.im, .int .i64 n.b.den, .int .i64 n.c.re, .int .i64 n.c.im, .int .i64 n.c.den, .int .i64 n.d.re, .int .i64 n.d.im, .int .i64 n.d.den])).run Tryd.prog w = .ok (m4B m n) w := by
  rw [run_equalIn_array w (d + 2) 39 23 4 3 _ _ Tryd.underlying39 (by rfl)]
  show (eqPlaces (d + 2) 23 3 _ _ [0, 1, 2, 3]).run Tryd.prog w = _
  rw [eqPl_step d _ _ 0 _ m.a n.a w (by simp [go_sem]) (by simp [go_sem]), eqPl_step d _ _ 1 _ m.b n.b w (by simp [go_sem]) (by simp [go_sem]), eqPl_step d _ _ 2 _ m.c n.c w (by simp [go_sem]) (by simp [go_sem]), eqPl_step d _ _ 3 _ m.d n.d w (by simp [go_sem]) (by simp [go_sem])]
  unfold m4B
  cases frB m.a n.a <;> cases frB m.b n.b <;> cases frB m.c n.c <;> cases frB m.d n.d <;> simp [eqPlaces]
set_option maxRecDepth 100000 in
theorem eqMatB_run (m n : M4) (d : Nat) (w : World) : (Op.equalIn (d + 5) 41 (.agg #[.int .i64 m.a.re, .int .i64 m.a.im, .int .i64 m.a.den, .int .i64 m.b.re, .int .i64 m.b.im, .int .i64 m.b.den, .int .i64 m.c.re, .int .i64 m.c.im, .int .i64 m.c.den, .int .i64 m.d.re, .int .i64 m.d.im, .int .i64 m.d.den]) (.agg #[.int .i64 n.a.re, .int .i64 n.a.im, .int .i64 n.a.den, .int .i64 n.b.re, .int .i64 n.b.im, .int .i64 n.b.den, .int .i64 n.c.re, .int .i64 n.c.im, .int .i64 n.c.den, .int .i64 n.d.re, .int .i64 n.d.im, .int .i64 n.d.den])).run Tryd.prog w = .ok (m4B m n) w := by
  rw [run_equalIn_agg w (d + 4) 41 _ _ (by kernel_rfl) (by kernel_rfl)]
  simp [go_sem, Tryd.underlying41]
  rw [eqArr_run m n (d + 1) w]
  cases m4B m n <;> simp
set_option maxRecDepth 100000 in
theorem eqMat_run (m : M4) (w : World) : (Op.equalIn 10000 41 (.agg #[.int .i64 m.a.re, .int .i64 m.a.im, .int .i64 m.a.den, .int .i64 m.b.re, .int .i64 m.b.im, .int .i64 m.b.den, .int .i64 m.c.re, .int .i64 m.c.im, .int .i64 m.c.den, .int .i64 m.d.re, .int .i64 m.d.im, .int .i64 m.d.den]) (.agg #[.int .i64 m.a.re, .int .i64 m.a.im, .int .i64 m.a.den, .int .i64 m.b.re, .int .i64 m.b.im, .int .i64 m.b.den, .int .i64 m.c.re, .int .i64 m.c.im, .int .i64 m.c.den, .int .i64 m.d.re, .int .i64 m.d.im, .int .i64 m.d.den])).run Tryd.prog w = .ok true w := by
  rw [eqMatB_run m m 9995 w, m4B_iff.2 rfl]
end Go.Proofs.YtmcokdiopcpifaaDoor
namespace Go.Proofs.YtmcokdiopcpifaaDoor
open Go.ChangeShapes Go.WideShapes Go.ChangeAt Go.RowKit Pol
/-- The code's bytes, read. -/
theorem open_code {H : Type} {enc : TypeId × Value → H} {W : World} {fuel : Nat} {a0 : Option Addr} {len cap : Nat} {x : DataW H × List MemPlace}
    (hf : DataW.trod enc Tryd.prog W 0 (fun _ => true) true fuel 55 (Value.cells (.slice a0 len cap)).toList = some x) (hlt : ∀ y ∈ x.2, y.block < W.heap.size) : len ≤ cap ∧ Code W.heap.size W a0 len := by
  rcases open_ints Tryd.underlying55 Tryd.underlying5 (by kernel_rfl) hf with ⟨hcs, hx⟩ | ⟨a, len', cap', zs, hcs, _, hl, hm, hz, hx, hcell, hwz⟩
  · replace hcs : [Value.slice a0 len cap] = _ := hcs
    simp at hcs
    obtain ⟨rfl, rfl, rfl⟩ := hcs
    exact ⟨Nat.le_refl _, fun i hi => absurd hi (Nat.not_lt_zero _)⟩
  · replace hcs : [Value.slice a0 len cap] = _ := hcs
    simp at hcs
    obtain ⟨rfl, rfl, rfl⟩ := hcs
    subst hx
    refine ⟨hl, fun i hi => ?_⟩
    have hlen : i < zs.length := by rw [hz]; split <;> omega
    obtain ⟨b, off, spot⟩ := a
    have hs0 := World.cell?_spot (hcell 0 (by omega))
    have hspot : spot = none := by simpa [Addr.add] using hs0
    subst hspot
    have ha : (⟨b, off, none⟩ : Addr).add i = ⟨b, off + i, none⟩ := by cases i <;> simp [Addr.add]
    have hc := hcell i hlen
    rw [ha] at hc
    have hb : b < W.heap.size := hlt (.cell b (off + i)) (MemPlace.mem_row.2 ⟨i, hlen, by simp⟩)
    have hw := hwz (zs.getD i 0) (by rw [List.getD_eq_getElem?_getD, List.getElem?_eq_getElem hlen]; exact List.getElem_mem hlen)
    have hw' := bounds_u8 hw
    exact ⟨b, off, rfl, hb, zs.getD i 0, hw'.1, by omega, hc⟩
theorem hd {p : Prop} (h : p) : Hid p := h
end Go.Proofs.YtmcokdiopcpifaaDoor
namespace Go.Proofs.YtmcokdiopcpifaaDoor
open Go.ChangeShapes Go.WideShapes Go.ChangeAt Go.RowKit Pol
/-- Block g holds the n fractions f. -/
structure Gat (w : World) (g : Nat) (f : Nat → Fr) (n : Nat) : Prop where
  lt : g < w.heap.size
  box : BoxAt w g f n
theorem Gat.below {w w' : World} {g n : Nat} {f : Nat → Fr} (h : Gat w g f n) (hb : Below w.heap.size w w') : Gat w' g f n := ⟨Nat.lt_of_lt_of_le h.lt hb.size, h.box.below hb h.lt⟩
theorem vars_len {H : Type} {enc : TypeId × Value → H} {P : Program} {W : World} {sp : Nat → Bool} : ∀ {ns : List String} {gs : List (DataW H)} {ps : List MemPlace}, DataW.TrodVars enc P W sp ns gs ps → gs.length = ns.length
  | [], [], _, _ => rfl
  | [], _ :: _, _, h => h.elim
  | _ :: _, [], _, h => h.elim
  | _ :: _, _ :: _, _, h => by
    obtain ⟨_, _, _, _, _, _, _, _, _, _, hs, _⟩ := h
    simpa using vars_len hs
theorem len1 {α : Type} {l : List α} (h : l.length = 1) : ∃ a, l = [a] := List.length_eq_one_iff.1 h
theorem laid_at {P : Program} {W : World} {n : String} {d : DataW Unit} : ∀ {l : List (String × DataW Unit)} {ps : List MemPlace}, DataW.LaidVars P W l ps → (n, d) ∈ l →
    ∃ g t cs fuel p, P.globalNamed n = some g ∧ (P.globals[g]?).map (·.type) = some t ∧ W.var? P n = some cs ∧ DataW.trod (fun _ => ()) P W 0 (fun _ => true) false fuel t cs.toList = some (d, p)
  | [], _, _, hm => by cases hm
  | (n', d') :: r, ps, h, hm => by
    obtain ⟨g, t, cs, fuel, p, q, e1, e2, e3, e4, hr, rfl⟩ := h
    rcases List.mem_cons.1 hm with e | hm
    · obtain ⟨rfl, rfl⟩ := Prod.mk.inj e
      exact ⟨g, t, cs, fuel, p, e1, e2, e3, e4⟩
    · exact laid_at hr hm
theorem var_lt {P : Program} {W : World} {n : String} {g : Nat} {cs : Array Value} (hg : P.globalNamed n = some g) (h : W.var? P n = some cs) : g < W.heap.size := by
  unfold World.var? at h
  rw [hg] at h
  simp only [Option.bind_some] at h
  cases hh : W.heap[g]? with
  | none => rw [hh] at h; cases h
  | some o => exact (Array.getElem?_eq_some_iff.1 hh).1
def FD (f : Fr) : DataW Unit := .agg [.lit (.int .i64 f.re), .lit (.int .i64 f.im), .lit (.int .i64 f.den)]
set_option maxRecDepth 100000 in
theorem int_of_trod {W : World} {fuel : Nat} {cs : List Value} {z : Int} {y : DataW Unit × List MemPlace} (h : DataW.trod (fun _ => ()) Tryd.prog W 0 (fun _ => true) false fuel 3 cs = some y) (e : y.1 = .lit (.int .i64 z)) : cs = [.int .i64 z] := by
  obtain ⟨n, rfl, rfl, _⟩ := DataW.trod_int Tryd.underlying3 h
  simp only [DataW.lit.injEq, Lit.int.injEq] at e
  rw [e.2]
set_option maxRecDepth 100000 in
theorem fr_of_trod {W : World} {fuel : Nat} {cs : List Value} {f : Fr} {y : DataW Unit × List MemPlace} (h : DataW.trod (fun _ => ()) Tryd.prog W 0 (fun _ => true) false fuel 23 cs = some y) (e : y.1 = FD f) : cs = [.int .i64 f.re, .int .i64 f.im, .int .i64 f.den] := by
  obtain ⟨y0, y1, y2, n, rfl, hl, h0, h1, h2⟩ := Go.Deep.trod_struct3 Tryd.underlying23 h
  have c3 : Tryd.prog.cellsOf 23 = 3 := by kernel_rfl
  have c1 : Tryd.prog.cellsOf 3 = 1 := by kernel_rfl
  rw [c3] at hl
  simp only [FD, DataW.agg.injEq, List.cons.injEq, and_true] at e
  match cs, hl with
  | [a, b, c], _ =>
    have k0 := int_of_trod h0 e.1
    have k1 := int_of_trod h1 e.2.1
    have k2 := int_of_trod h2 e.2.2
    rw [c1] at k0 k1 k2
    simp at k0 k1 k2
    rw [k0, k1, k2]
set_option maxRecDepth 100000 in
theorem gat_of {W : World} {n : String} {g : Nat} {cs : Array Value} {f : Nat → Fr} {k : Nat} {l : List Value} (hg : Tryd.prog.globalNamed n = some g) (hv : W.var? Tryd.prog n = some cs) (hl : cs.toList = l) (hk : ∀ j, j < k → l[j * 3]? = some (.int .i64 (f j).re) ∧ l[j * 3 + 1]? = some (.int .i64 (f j).im) ∧ l[j * 3 + 2]? = some (.int .i64 (f j).den)) : Gat W g f k := by
  refine ⟨var_lt hg hv, fun j hj => ?_⟩
  obtain ⟨h0, h1, h2⟩ := hk j hj
  have hc := fun i => World.var?_cell hg hv i
  have e : ∀ i : Nat, cs[i]? = l[i]? := fun i => by rw [← hl]; exact Array.getElem?_toList.symm
  exact ⟨(hc _).trans ((e _).trans h0), (hc _).trans ((e _).trans h1), (hc _).trans ((e _).trans h2)⟩
def ixF (f : Fr) : Nat → Fr := fun _ => f
set_option maxRecDepth 100000 in
theorem gat_zero {l : List (String × DataW Unit)} {W : World} (h : laidMetH Tryd.prog l W) (hp : (l.all fun x => x.2.handleName?.isNone) = true) (hm : ("loop.example/polarisedlight/impl.zero", DataW.agg [.lit (.int .i64 0), .lit (.int .i64 0), .lit (.int .i64 1)]) ∈ l) : Gat W 1 (ixF f0) 1 := by
  rw [MakeChecks.laidMetH_plain _ _ _ hp] at h
  obtain ⟨ps, hv, -, -⟩ := h
  obtain ⟨g, t, cs, fuel, p, e1, e2, e3, e4⟩ := laid_at hv hm
  obtain rfl := Option.some.inj ((show Tryd.prog.globalNamed "loop.example/polarisedlight/impl.zero" = some 1 by kernel_rfl).symm.trans e1)
  obtain rfl := Option.some.inj ((show (Tryd.prog.globals[1]?).map (·.type) = some 23 by kernel_rfl).symm.trans e2)
  refine gat_of e1 e3 (fr_of_trod (f := f0) e4 rfl) (fun j hj => ?_)
  obtain rfl : j = 0 := by omega
  exact ⟨rfl, rfl, rfl⟩
end Go.Proofs.YtmcokdiopcpifaaDoor
namespace Go.Proofs.YtmcokdiopcpifaaDoor
open Go.RowKit Pol
theorem FrOut.self' {g : Fr × Bool} {w w' : World} (hb : Below w.heap.size w w') : FrOut g w (.returned (.tuple #[.agg #[.int .i64 g.1.re, .int .i64 g.1.im, .int .i64 g.1.den], .bool g.2])) w' := ⟨g.1, g.2, rfl, rfl, hb⟩
end Go.Proofs.YtmcokdiopcpifaaDoor
namespace Go.Proofs.YtmcokdiopcpifaaDoor
open Go.RowKit Pol
/-- Where the reference's loop stands: k places are done, and none was none. -/
structure SRel (W : World) (A B R O : Nat) (ga gb : Nat → Fr) (nb : Nat) (f : Nat → Fr × Bool) (k : Nat) (wr : World) : Prop where
  le : k ≤ 4
  below : Below W.heap.size W wr
  size : O + 1 ≤ wr.heap.size
  one : BoxAt wr A ga 4
  two : BoxAt wr B gb nb
  res : Room wr R 4
  room : Room wr O 4
  out : BoxAt wr O (fun i => (f i).1) k
  good : ∀ j, j < k → (f j).2 = true
structure Ord2 (W : World) (A B R O : Nat) : Prop where
  hA : A < O
  hB : B < O
  hR : R < O
  wO : W.heap.size ≤ O
theorem SRel.below' {W wr w1 : World} {A B R O : Nat} {ga gb : Nat → Fr} {nb : Nat} {f : Nat → Fr × Bool} {k : Nat} (h : SRel W A B R O ga gb nb f k wr) (o : Ord2 W A B R O) (hb : Below wr.heap.size wr w1) : SRel W A B R O ga gb nb f k w1 := by
  have hz := h.size
  obtain ⟨a1, a2, a3, a4⟩ := o
  exact ⟨h.le, h.below.trans (hb.mono h.below.size), Nat.le_trans hz hb.size, h.one.below hb (by omega), h.two.below hb (by omega), h.res.below hb (by omega), h.room.below hb (by omega), h.out.below hb (by omega), h.good⟩
theorem SRel.put {W w1 : World} {A B R O : Nat} {ga gb : Nat → Fr} {nb : Nat} {f : Nat → Fr × Bool} {k : Nat} (h : SRel W A B R O ga gb nb f k w1) (o : Ord2 W A B R O) (hk : k < 4) (hok : (f k).2 = true) : SRel W A B R O ga gb nb f (k + 1) (putF w1 O k (f k).1) := by
  obtain ⟨a1, a2, a3, a4⟩ := o
  refine ⟨hk, ((h.below.setCell a4 _).setCell a4 _).setCell a4 _, by rw [putF_size]; exact h.size, h.one.put_other (by omega) k _, h.two.put_other (by omega) k _, h.res.put _ _ _, h.room.put _ _ _, h.out.put h.room hk, fun j hj => ?_⟩
  rcases Nat.lt_or_ge j k with h3 | h3
  · exact h.good j h3
  · obtain rfl : j = k := by omega
    exact hok
theorem SRel.alloc {W w1 : World} {A B R O : Nat} {ga gb : Nat → Fr} {nb : Nat} {f : Nat → Fr × Bool} {k : Nat} (h : SRel W A B R O ga gb nb f k w1) (o : Ord2 W A B R O) (x : Obj) : SRel W A B R O ga gb nb f k (w1.alloc x) := h.below' o ((Below.refl _ _).alloc (Nat.le_refl _) x)
theorem SRel.other {W w1 : World} {A B R O : Nat} {ga gb : Nat → Fr} {nb : Nat} {f : Nat → Fr × Bool} {k : Nat} (h : SRel W A B R O ga gb nb f k w1) (o : Ord2 W A B R O) {b : Nat} (hb : O < b) (j : Nat) (g : Fr) : SRel W A B R O ga gb nb f k (putF w1 b j g) := by
  obtain ⟨a1, a2, a3, a4⟩ := o
  exact ⟨h.le, ((h.below.setCell (by show _ ≤ b; omega) _).setCell (by show _ ≤ b; omega) _).setCell (by show _ ≤ b; omega) _, by rw [putF_size]; exact h.size, h.one.put_other (by omega) j _, h.two.put_other (by omega) j _, h.res.put _ _ _, h.room.put _ _ _, h.out.put_other (by omega) j _, h.good⟩
theorem SRel.drew {W wr : World} {A B R O : Nat} {ga gb : Nat → Fr} {nb : Nat} {f : Nat → Fr × Bool} {k : Nat} (h : SRel W A B R O ga gb nb f k wr) : SRel W A B R O ga gb nb f k wr.drew := ⟨h.le, h.below.drew, h.size, h.one, h.two, h.res, h.room, h.out, h.good⟩
end Go.Proofs.YtmcokdiopcpifaaDoor
namespace Pol
def accQ (a : M4) : Nat → Fr
  | 0 => f0
  | m + 1 => if m = 0 then f0 else (fAdd (accQ a m) (fTimes (a.get m) (a.get m)).1).1
def tQ (a : M4) (m : Nat) : Fr × Bool := fTimes (a.get m) (a.get m)
def nQ (a : M4) (m : Nat) : Fr × Bool := fAdd (accQ a m) (tQ a m).1
theorem accQ_next (a : M4) {m : Nat} (h : 1 ≤ m) : accQ a (m + 1) = (nQ a m).1 := by
  show (if m = 0 then f0 else _) = _
  rw [if_neg (by omega)]; rfl
end Pol
namespace Go.Proofs.YtmcokdiopcpifaaDoor
open Go.RowKit Pol
/-- Where the loop stands: the places from 1 to m - 1 are done. -/
structure QRel (W : World) (A R O : Nat) (a : M4) (m : Nat) (wr : World) : Prop where
  lo : 1 ≤ m
  le : m ≤ 4
  below : Below W.heap.size W wr
  size : O + 1 ≤ wr.heap.size
  one : BoxAt wr A a.get 4
  res : Room wr R 1
  room : Room wr O 1
  out : BoxAt wr O (fun _ => accQ a m) 1
  good : ∀ j, 1 ≤ j → j < m → (tQ a j).2 = true ∧ (nQ a j).2 = true
theorem QRel.next {W wr w1 : World} {A R O : Nat} {a : M4} {m : Nat} (h : QRel W A R O a m wr) (hA : A < O) (hR : R < O) (hb : Below wr.heap.size wr w1) : QRel W A R O a m w1 := by
  have hz := h.size
  exact ⟨h.lo, h.le, h.below.trans (hb.mono h.below.size), Nat.le_trans hz hb.size, h.one.below hb (by omega), h.res.below hb (by omega), h.room.below hb (by omega), h.out.below hb (by omega), h.good⟩
theorem QRel.alloc {W wr : World} {A R O : Nat} {a : M4} {m : Nat} (h : QRel W A R O a m wr) (hA : A < O) (hR : R < O) (x : Obj) : QRel W A R O a m (wr.alloc x) := h.next hA hR ((Below.refl _ _).alloc (Nat.le_refl _) x)
theorem QRel.drew {W wr : World} {A R O : Nat} {a : M4} {m : Nat} (h : QRel W A R O a m wr) : QRel W A R O a m wr.drew := ⟨h.lo, h.le, h.below.drew, h.size, h.one, h.res, h.room, h.out, h.good⟩
theorem QRel.other {W wr : World} {A R O : Nat} {a : M4} {m : Nat} (h : QRel W A R O a m wr) (hA : A < O) (_hR : R < O) (hW : W.heap.size ≤ O) {b : Nat} (hb : O < b) (g : Fr) : QRel W A R O a m (putF wr b 0 g) :=
  ⟨h.lo, h.le, ((h.below.setCell (by show _ ≤ b; omega) _).setCell (by show _ ≤ b; omega) _).setCell (by show _ ≤ b; omega) _, by rw [putF_size]; exact h.size, h.one.put_other (by omega) 0 g, h.res.put _ _ _, h.room.put _ _ _, h.out.put_other (by omega) 0 g, h.good⟩
theorem QRel.put {W wr : World} {A R O : Nat} {a : M4} {m : Nat} (h : QRel W A R O a m wr) (hA : A < O) (_hR : R < O) (hW : W.heap.size ≤ O) (h4 : m < 4) (h1 : (tQ a m).2 = true) (h2 : (nQ a m).2 = true) : QRel W A R O a (m + 1) (putF wr O 0 (nQ a m).1) := by
  refine ⟨by omega, h4, ((h.below.setCell hW _).setCell hW _).setCell hW _, by rw [putF_size]; exact h.size, h.one.put_other (by omega) 0 _, h.res.put _ _ _, h.room.put _ _ _, ?_, fun j j1 j2 => ?_⟩
  · rw [accQ_next a h.lo]; exact BoxAt.put (g := fun _ => (nQ a m).1) (k := 0) (fun k hk => absurd hk (by omega)) h.room (by omega)
  · rcases Nat.lt_or_ge j m with h3 | h3
    · exact h.good j j1 h3
    · obtain rfl : j = m := by omega
      exact ⟨h1, h2⟩
end Go.Proofs.YtmcokdiopcpifaaDoor
namespace Go.Proofs.YtmcokdiopcpifaaDoor
open Go.RowKit Pol
/-- What a call hands back that makes a number and a Bool. -/
def CmpOut (g : Int × Bool) (w : World) (e : Ending) (w' : World) : Prop := e = .returned (.tuple #[.int .i64 g.1, .bool g.2]) ∧ Below w.heap.size w w'
theorem CmpOut.fn {g : Int × Bool} {w w' : World} {e : Ending} (h : CmpOut g w e w') : e = .returned (.tuple #[.int .i64 g.1, .bool g.2]) ∧ Below w.heap.size w w' := h
theorem CmpOut.is {g : Int × Bool} {x : Int} {b : Bool} {w w' : World} (h : g = (x, b)) (hb : Below w.heap.size w w') : CmpOut g w (.returned (.tuple #[.int .i64 x, .bool b])) w' := ⟨by rw [h], hb⟩
end Go.Proofs.YtmcokdiopcpifaaDoor
namespace Go.Proofs.YtmcokdiopcpifaaDoor
open Pol
/-- Are two fractions the same? -/
def frEq (x y : Fr) : Bool := decide (x.re = y.re) && decide (x.im = y.im) && decide (x.den = y.den)
theorem frEq_iff {x y : Fr} : frEq x y = true ↔ x = y := by
  obtain ⟨a1, a2, a3⟩ := x
  obtain ⟨b1, b2, b3⟩ := y
  simp [frEq, and_assoc]
theorem frEq_comm (x y : Fr) : frEq x y = frEq y x := by
  rw [Bool.eq_iff_iff, frEq_iff, frEq_iff]; exact ⟨Eq.symm, Eq.symm⟩
def gpB (a b : M4) (i k : Nat) : Bool := (fTimes (a.get i) (b.get k)).2 && (fTimes (a.get k) (b.get i)).2 && frEq (fTimes (a.get i) (b.get k)).1 (fTimes (a.get k) (b.get i)).1
/-- The products across are the same. -/
def alB (a b : M4) : Bool := gpB a b 1 0 && gpB a b 2 0 && gpB a b 2 1 && gpB a b 3 0 && gpB a b 3 1 && gpB a b 3 2
theorem alB_all {a b : M4} (h : ∀ i k, k < i → i < 4 → gpB a b i k = true) : alB a b = true := by
  unfold alB
  rw [h 1 0 (by omega) (by omega), h 2 0 (by omega) (by omega), h 2 1 (by omega) (by omega), h 3 0 (by omega) (by omega), h 3 1 (by omega) (by omega), h 3 2 (by omega) (by omega)]; rfl
theorem alB_bad {a b : M4} {i k : Nat} (hk : k < i) (hi : i < 4) (h : gpB a b i k = false) : alB a b = false := by
  have : (i = 1 ∧ k = 0) ∨ (i = 2 ∧ k = 0) ∨ (i = 2 ∧ k = 1) ∨ (i = 3 ∧ k = 0) ∨ (i = 3 ∧ k = 1) ∨ (i = 3 ∧ k = 2) := by omega
  unfold alB
  rcases this with ⟨rfl, rfl⟩ | ⟨rfl, rfl⟩ | ⟨rfl, rfl⟩ | ⟨rfl, rfl⟩ | ⟨rfl, rfl⟩ | ⟨rfl, rfl⟩ <;> rw [h] <;> simp
theorem gpB_self (a b : M4) (i k : Nat) : gpB a b k i = gpB a b i k := by
  unfold gpB
  rw [frEq_comm]
  cases (fTimes (a.get i) (b.get k)).2 <;> cases (fTimes (a.get k) (b.get i)).2 <;> simp
theorem alB_bad2 {a b : M4} {i k : Nat} (hn : i ≠ k) (hi : i < 4) (hk : k < 4) (h : gpB a b i k = false) : alB a b = false := by
  rcases Nat.lt_or_ge k i with h1 | h1
  · exact alB_bad h1 hi h
  · exact alB_bad (i := k) (k := i) (by omega) hk (by rw [gpB_self]; exact h)
theorem alB_iff {a b : M4} : alB a b = true ↔ ∀ i k, i < 4 → k < 4 → i ≠ k → gpB a b i k = true := by
  constructor
  · intro h i k hi hk hn
    cases e : gpB a b i k
    · rw [alB_bad2 hn hi hk e] at h; cases h
    · rfl
  · intro h; exact alB_all (fun i k hk hi => h i k hi (by omega) (by omega))
theorem tm_comm (a b : Fr) : fTimes a b = fTimes b a := by
  unfold fTimes
  rw [Bool.and_comm (vld a), Int.mul_comm a.den b.den, Int.mul_comm a.re b.re, Int.mul_comm a.im b.im, Int.mul_comm a.re b.im, Int.mul_comm a.im b.re, Int.add_comm (b.im * a.re)]
theorem gpB_comm (a b : M4) (i k : Nat) : gpB b a i k = gpB a b i k := by
  unfold gpB
  rw [tm_comm (b.get i), tm_comm (b.get k), frEq_comm]
  cases (fTimes (a.get i) (b.get k)).2 <;> cases (fTimes (a.get k) (b.get i)).2 <;> simp
theorem alB_comm (a b : M4) : alB b a = alB a b := by
  unfold alB; simp only [gpB_comm]
/-- A product of small fractions is one. -/
def sm1 (f : Fr) : Bool := decide (-10000 < f.re ∧ f.re < 10000 ∧ -10000 < f.im ∧ f.im < 10000 ∧ f.den < 10000)
theorem tdiv_le {n g : Int} (_hg : 1 ≤ g) : (n.tdiv g).natAbs ≤ n.natAbs := by
  rw [Int.natAbs_tdiv]; exact Nat.div_le_self _ _
theorem mul_lt {a b : Int} (h : a.natAbs < 10000) (k : b.natAbs < 10000) : (a * b).natAbs ≤ 99980001 := by
  rw [Int.natAbs_mul]
  have := Nat.mul_le_mul (show a.natAbs ≤ 9999 by omega) (show b.natAbs ≤ 9999 by omega)
  omega
theorem low_in {re im den : Int} (h1 : re.natAbs ≤ 2000000000) (h2 : im.natAbs ≤ 2000000000) (h3 : 1 ≤ den) (h4 : den ≤ 2000000000) : (low re im den).2 = true := by
  have hg := g3_pos re im den h3
  have e1 := tdiv_le (n := re) hg
  have e2 := tdiv_le (n := im) hg
  have e3 := tdiv_le (n := den) hg
  have hb : lowB re im den = true := by
    unfold lowB cut inP
    simp only [Bool.and_eq_true, decide_eq_true_eq]
    omega
  unfold low; rw [if_pos hb]
theorem sm_times {a b : Fr} (ha : vld a = true) (hb : vld b = true) (h : sm1 a = true) (k : sm1 b = true) : (fTimes a b).2 = true := by
  unfold sm1 at h k
  simp only [decide_eq_true_eq] at h k
  have d1 := vld_den ha
  have d2 := vld_den hb
  have e1 := mul_lt (a := a.re) (b := b.re) (by omega) (by omega)
  have e2 := mul_lt (a := a.im) (b := b.im) (by omega) (by omega)
  have e3 := mul_lt (a := a.re) (b := b.im) (by omega) (by omega)
  have e4 := mul_lt (a := a.im) (b := b.re) (by omega) (by omega)
  have e5 := mul_lt (a := a.den) (b := b.den) (by omega) (by omega)
  have d3 := den_mul_pos ha hb
  unfold fTimes
  rw [if_pos (by rw [ha, hb]; rfl)]
  exact low_in (by omega) (by omega) d3 (by omega)
/-- The values across. -/
theorem gpB_val {a b : M4} {i k : Nat} (h : gpB a b i k = true) :
    rv (a.get i) * rv (b.get k) - iv (a.get i) * iv (b.get k) = rv (a.get k) * rv (b.get i) - iv (a.get k) * iv (b.get i) ∧ rv (a.get i) * iv (b.get k) + iv (a.get i) * rv (b.get k) = rv (a.get k) * iv (b.get i) + iv (a.get k) * rv (b.get i) := by
  unfold gpB at h
  simp only [Bool.and_eq_true, frEq_iff] at h
  obtain ⟨⟨h1, h2⟩, h3⟩ := h
  obtain ⟨-, -, -, r1, i1⟩ := fTimes_ok.1 (pair_t h1)
  obtain ⟨-, -, -, r2, i2⟩ := fTimes_ok.1 (pair_t h2)
  rw [h3] at r1 i1
  exact ⟨r1.symm.trans r2, i1.symm.trans i2⟩
theorem times_eq {a b c d : Fr} (h1 : (fTimes a b).2 = true) (h2 : (fTimes c d).2 = true) (e1 : rv a * rv b - iv a * iv b = rv c * rv d - iv c * iv d) (e2 : rv a * iv b + iv a * rv b = rv c * iv d + iv c * rv d) : (fTimes a b).1 = (fTimes c d).1 := by
  obtain ⟨-, -, v1, r1, i1⟩ := fTimes_ok.1 (pair_t h1)
  obtain ⟨-, -, v2, r2, i2⟩ := fTimes_ok.1 (pair_t h2)
  exact val_inj v1 v2 (r1.trans (e1.trans r2.symm)) (i1.trans (e2.trans i2.symm))
theorem gpB_of {a b : M4} {i k : Nat} (h1 : (fTimes (a.get i) (b.get k)).2 = true) (h2 : (fTimes (a.get k) (b.get i)).2 = true) (e1 : rv (a.get i) * rv (b.get k) - iv (a.get i) * iv (b.get k) = rv (a.get k) * rv (b.get i) - iv (a.get k) * iv (b.get i)) (e2 : rv (a.get i) * iv (b.get k) + iv (a.get i) * rv (b.get k) = rv (a.get k) * iv (b.get i) + iv (a.get k) * rv (b.get i)) : gpB a b i k = true := by
  unfold gpB
  rw [h1, h2, times_eq h1 h2 e1 e2, frEq_iff.2 rfl]; rfl
theorem all4_get {p : Fr → Bool} {m : M4} (h : all4 p m = true) : ∀ k, k < 4 → p (m.get k) = true := apre_all h
/-- All fractions are 0. -/
def dkF (f : Fr) : Bool := decide (f.re = 0) && decide (f.im = 0)
def dkM (a : M4) : Bool := dkF a.a && dkF a.b && dkF a.c && dkF a.d
/-- Alike matrices. -/
def gMAl (a b : M4) : Bool := all4 vld a && all4 vld b && alB a b && (dkM a == dkM b)
def dkJ (a : J2) : Bool := dkF a.x && dkF a.y
/-- Alike vectors. -/
def gJAl (a b : J2) : Bool := (fTimes a.x b.y).2 && (fTimes a.y b.x).2 && jv a && jv b && frEq (fTimes a.x b.y).1 (fTimes a.y b.x).1 && (dkJ a == dkJ b)
theorem dkF_iff {f : Fr} (h : vld f = true) : dkF f = true ↔ rv f = 0 ∧ iv f = 0 := by
  unfold dkF
  simp only [Bool.and_eq_true, decide_eq_true_eq]
  rw [rv_zero h, iv_zero h]
theorem dkF_f0 {f : Fr} (h : vld f = true) : dkF f = true ↔ f = f0 := by
  rw [dkF_iff h]
  constructor
  · rintro ⟨h1, h2⟩; exact val_inj h vld_f0 (by rw [h1, rv_f0]) (by rw [h2, iv_f0])
  · rintro rfl; exact ⟨rv_f0, iv_f0⟩
theorem gMAl_comm (a b : M4) : gMAl b a = gMAl a b := by
  unfold gMAl
  rw [alB_comm, Bool.and_comm (all4 vld b)]
  congr 1
  cases dkM a <;> cases dkM b <;> rfl
end Go.Proofs.YtmcokdiopcpifaaDoor
namespace Go.Proofs.YtmcokdiopcpifaaDoor
open Go.RowKit Pol
theorem BoxAt.drew' {w : World} {N n : Nat} {g : Nat → Fr} (h : BoxAt w N g n) : BoxAt w.drew N g n := h
/-- Where the two loops stand. -/
structure ARel (W : World) (A B : Nat) (a b : M4) (i k : Nat) (wr : World) : Prop where
  le : i ≤ 4
  lk : k ≤ i
  below : Below W.heap.size W wr
  hA : A < wr.heap.size
  hB : B < wr.heap.size
  one : BoxAt wr A a.get 4
  two : BoxAt wr B b.get 4
  good : ∀ p q, q < p → (p < i ∨ (p = i ∧ q < k)) → gpB a b p q = true
def AO (W : World) (A B : Nat) (a b : M4) (v : Value) (wr : World) : Prop := ∃ i : Nat, v = .int .i64 i ∧ ARel W A B a b i 0 wr
def AI (W : World) (A B : Nat) (a b : M4) (i : Nat) (v : Value) (wr : World) : Prop := ∃ k : Nat, v = .int .i64 k ∧ ARel W A B a b i k wr
theorem ARel.next {W wr w1 : World} {A B : Nat} {a b : M4} {i k : Nat} (h : ARel W A B a b i k wr) (hb : Below wr.heap.size wr w1) : ARel W A B a b i k w1 :=
  ⟨h.le, h.lk, h.below.trans (hb.mono h.below.size), Nat.lt_of_lt_of_le h.hA hb.size, Nat.lt_of_lt_of_le h.hB hb.size, h.one.below hb h.hA, h.two.below hb h.hB, h.good⟩
theorem ARel.alloc {W wr : World} {A B : Nat} {a b : M4} {i k : Nat} (h : ARel W A B a b i k wr) (x : Obj) : ARel W A B a b i k (wr.alloc x) := h.next ((Below.refl _ _).alloc (Nat.le_refl _) x)
theorem ARel.drew {W wr : World} {A B : Nat} {a b : M4} {i k : Nat} (h : ARel W A B a b i k wr) : ARel W A B a b i k wr.drew := h.next (Below.refl _ _).drew
theorem ARel.other {W wr : World} {A B : Nat} {a b : M4} {i k : Nat} (h : ARel W A B a b i k wr) {X : Nat} (h1 : X ≠ A) (h2 : X ≠ B) (h3 : W.heap.size ≤ X) (g : Fr) : ARel W A B a b i k (putF wr X 0 g) :=
  ⟨h.le, h.lk, ((h.below.setCell h3 _).setCell h3 _).setCell h3 _, by rw [putF_size]; exact h.hA, by rw [putF_size]; exact h.hB, h.one.put_other h1 0 g, h.two.put_other h2 0 g, h.good⟩
theorem ARel.step {W wr : World} {A B : Nat} {a b : M4} {i k : Nat} (h : ARel W A B a b i k wr) (hk : k < i) (hg : gpB a b i k = true) : ARel W A B a b i (k + 1) wr :=
  ⟨h.le, hk, h.below, h.hA, h.hB, h.one, h.two, fun p q hq hp => by
    rcases hp with hp | ⟨rfl, hp⟩
    · exact h.good p q hq (Or.inl hp)
    · rcases Nat.lt_or_ge q k with h1 | h1
      · exact h.good p q hq (Or.inr ⟨rfl, h1⟩)
      · obtain rfl : q = k := by omega
        exact hg⟩
theorem ARel.row {W wr : World} {A B : Nat} {a b : M4} {i : Nat} (h : ARel W A B a b i i wr) (hi : i < 4) : ARel W A B a b (i + 1) 0 wr :=
  ⟨hi, Nat.zero_le _, h.below, h.hA, h.hB, h.one, h.two, fun p q hq hp => by
    rcases hp with hp | ⟨_, hp⟩
    · rcases Nat.lt_or_ge p i with h1 | h1
      · exact h.good p q hq (Or.inl h1)
      · obtain rfl : p = i := by omega
        exact h.good p q hq (Or.inr ⟨rfl, hq⟩)
    · omega⟩
end Go.Proofs.YtmcokdiopcpifaaDoor
