/- What the listed package-level variables hold when a call begins, and how they read behind it. -/
import Derived.Test.YtmcokdiopcpifaaDoorL
import Derived.Test.YtmcokdiopcpifaaDoorO
import Derived.LaidMore
import Derived.OpenVars
import Derived.Deep.Strs
import Derived.MakeChecks
import Derived.LaidHandle
set_option maxRecDepth 100000
namespace Go.Proofs.YtmcokdiopcpifaaDoor
open Go.ChangeShapes Go.WideShapes Go.ChangeAt Go.RowKit Pol

/-- Block g holds the n fractions f. -/
structure Gat (w : World) (g : Nat) (f : Nat → Fr) (n : Nat) : Prop where
  lt : g < w.heap.size
  box : BoxAt w g f n
theorem Gat.below {w w' : World} {g n : Nat} {f : Nat → Fr} (h : Gat w g f n) (hb : Below w.heap.size w w') : Gat w' g f n := ⟨Nat.lt_of_lt_of_le h.lt hb.size, h.box.below hb h.lt⟩
theorem vars_len {H : Type} {enc : TypeId × Value → H} {P : Program} {W : World} {sp : Nat → Bool} : ∀ {ns : List String} {gs : List (DataW H)} {ps : List MemPlace}, DataW.TrodVars enc P W sp ns gs ps → gs.length = ns.length
  | [], [], _, _ => rfl
  | [], _ :: _, _, h => h.elim
  | _ :: _, [], _, h => h.elim
  | _ :: _, _ :: _, _, h => by
    obtain ⟨_, _, _, _, _, _, _, _, _, _, hs, _⟩ := h
    simpa using vars_len hs
theorem len1 {α : Type} {l : List α} (h : l.length = 1) : ∃ a, l = [a] := List.length_eq_one_iff.1 h
theorem len2 {α : Type} {l : List α} (h : l.length = 2) : ∃ a b, l = [a, b] := match l, h with | [a, b], _ => ⟨a, b, rfl⟩
theorem len3 {α : Type} {l : List α} (h : l.length = 3) : ∃ a b c, l = [a, b, c] := match l, h with | [a, b, c], _ => ⟨a, b, c, rfl⟩
theorem len4 {α : Type} {l : List α} (h : l.length = 4) : ∃ a b c d, l = [a, b, c, d] := match l, h with | [a, b, c, d], _ => ⟨a, b, c, d, rfl⟩
theorem len5 {α : Type} {l : List α} (h : l.length = 5) : ∃ a b c d e, l = [a, b, c, d, e] := match l, h with | [a, b, c, d, e], _ => ⟨a, b, c, d, e, rfl⟩
theorem laid_at {P : Program} {W : World} {n : String} {d : DataW Unit} : ∀ {l : List (String × DataW Unit)} {ps : List MemPlace}, DataW.LaidVars P W l ps → (n, d) ∈ l →
    ∃ g t cs fuel p, P.globalNamed n = some g ∧ (P.globals[g]?).map (·.type) = some t ∧ W.var? P n = some cs ∧ DataW.trod (fun _ => ()) P W 0 (fun _ => true) false fuel t cs.toList = some (d, p)
  | [], _, _, hm => by cases hm
  | (n', d') :: r, ps, h, hm => by
    obtain ⟨g, t, cs, fuel, p, q, e1, e2, e3, e4, hr, rfl⟩ := h
    rcases List.mem_cons.1 hm with e | hm
    · obtain ⟨rfl, rfl⟩ := Prod.mk.inj e
      exact ⟨g, t, cs, fuel, p, e1, e2, e3, e4⟩
    · exact laid_at hr hm
theorem var_lt {P : Program} {W : World} {n : String} {g : Nat} {cs : Array Value} (hg : P.globalNamed n = some g) (h : W.var? P n = some cs) : g < W.heap.size := by
  unfold World.var? at h
  rw [hg] at h
  simp only [Option.bind_some] at h
  cases hh : W.heap[g]? with
  | none => rw [hh] at h; cases h
  | some o => exact (Array.getElem?_eq_some_iff.1 hh).1
def FD (f : Fr) : DataW Unit := .agg [.lit (.int .i64 f.re), .lit (.int .i64 f.im), .lit (.int .i64 f.den)]
set_option maxRecDepth 100000 in
theorem int_of_trod {W : World} {fuel : Nat} {cs : List Value} {z : Int} {y : DataW Unit × List MemPlace} (h : DataW.trod (fun _ => ()) Tryd.prog W 0 (fun _ => true) false fuel 3 cs = some y) (e : y.1 = .lit (.int .i64 z)) : cs = [.int .i64 z] := by
  obtain ⟨n, rfl, rfl, _⟩ := DataW.trod_int Tryd.underlying3 h
  simp only [DataW.lit.injEq, Lit.int.injEq] at e
  rw [e.2]
set_option maxRecDepth 100000 in
theorem fr_of_trod {W : World} {fuel : Nat} {cs : List Value} {f : Fr} {y : DataW Unit × List MemPlace} (h : DataW.trod (fun _ => ()) Tryd.prog W 0 (fun _ => true) false fuel 23 cs = some y) (e : y.1 = FD f) : cs = [.int .i64 f.re, .int .i64 f.im, .int .i64 f.den] := by
  obtain ⟨y0, y1, y2, n, rfl, hl, h0, h1, h2⟩ := Go.Deep.trod_struct3 Tryd.underlying23 h
  have c3 : Tryd.prog.cellsOf 23 = 3 := by kernel_rfl
  have c1 : Tryd.prog.cellsOf 3 = 1 := by kernel_rfl
  rw [c3] at hl
  simp only [FD, DataW.agg.injEq, List.cons.injEq, and_true] at e
  match cs, hl with
  | [a, b, c], _ =>
    have k0 := int_of_trod h0 e.1
    have k1 := int_of_trod h1 e.2.1
    have k2 := int_of_trod h2 e.2.2
    rw [c1] at k0 k1 k2
    simp at k0 k1 k2
    rw [k0, k1, k2]
set_option maxRecDepth 100000 in
theorem arr_of_trod {W : World} {fuel : Nat} {cs : List Value} {m : M4} {y : DataW Unit × List MemPlace} (h : DataW.trod (fun _ => ()) Tryd.prog W 0 (fun _ => true) false fuel 39 cs = some y) (e : y.1 = .agg [FD m.a, FD m.b, FD m.c, FD m.d]) : cs = [.int .i64 m.a.re, .int .i64 m.a.im, .int .i64 m.a.den, .int .i64 m.b.re, .int .i64 m.b.im, .int .i64 m.b.den, .int .i64 m.c.re, .int .i64 m.c.im, .int .i64 m.c.den, .int .i64 m.d.re, .int .i64 m.d.im, .int .i64 m.d.den] := by
  obtain ⟨xs, m1, rfl, rfl, hlen, hn, hel⟩ := DataW.trod_array Tryd.underlying39 h
  have c3 : Tryd.prog.cellsOf 23 = 3 := by kernel_rfl
  have c12 : Tryd.prog.cellsOf 39 = 12 := by kernel_rfl
  rw [c12] at hlen
  rw [c3] at hel
  match xs, hn with
  | [x0, x1, x2, x3], _ =>
    simp only [List.map_cons, List.map_nil, DataW.agg.injEq, List.cons.injEq, and_true] at e
    match cs, hlen with
    | [v0, v1, v2, v3, v4, v5, v6, v7, v8, v9, v10, v11], _ =>
      have k0 := fr_of_trod (hel 0 (by omega)) e.1
      have k1 := fr_of_trod (hel 1 (by omega)) e.2.1
      have k2 := fr_of_trod (hel 2 (by omega)) e.2.2.1
      have k3 := fr_of_trod (hel 3 (by omega)) e.2.2.2
      simp at k0 k1 k2 k3
      simp [k0, k1, k2, k3]
set_option maxRecDepth 100000 in
theorem mat_of_trod {W : World} {fuel : Nat} {cs : List Value} {m : M4} {y : DataW Unit × List MemPlace} (h : DataW.trod (fun _ => ()) Tryd.prog W 0 (fun _ => true) false fuel 41 cs = some y) (e : y.1 = .agg [.agg [FD m.a, FD m.b, FD m.c, FD m.d]]) : cs = [.int .i64 m.a.re, .int .i64 m.a.im, .int .i64 m.a.den, .int .i64 m.b.re, .int .i64 m.b.im, .int .i64 m.b.den, .int .i64 m.c.re, .int .i64 m.c.im, .int .i64 m.c.den, .int .i64 m.d.re, .int .i64 m.d.im, .int .i64 m.d.den] := by
  obtain ⟨y0, n, rfl, hl, h0⟩ := trod_struct1 Tryd.underlying41 h
  have c12 : Tryd.prog.cellsOf 39 = 12 := by kernel_rfl
  have c12' : Tryd.prog.cellsOf 41 = 12 := by kernel_rfl
  rw [c12'] at hl
  simp only [DataW.agg.injEq, List.cons.injEq, and_true] at e
  have k := arr_of_trod h0 e
  rw [c12] at k
  rw [← k]
  simp only [List.drop_zero]
  rw [List.take_of_length_le (by omega)]
set_option maxRecDepth 100000 in
theorem gat_of {W : World} {n : String} {g : Nat} {cs : Array Value} {f : Nat → Fr} {k : Nat} {l : List Value} (hg : Tryd.prog.globalNamed n = some g) (hv : W.var? Tryd.prog n = some cs) (hl : cs.toList = l) (hk : ∀ j, j < k → l[j * 3]? = some (.int .i64 (f j).re) ∧ l[j * 3 + 1]? = some (.int .i64 (f j).im) ∧ l[j * 3 + 2]? = some (.int .i64 (f j).den)) : Gat W g f k := by
  refine ⟨var_lt hg hv, fun j hj => ?_⟩
  obtain ⟨h0, h1, h2⟩ := hk j hj
  have hc := fun i => World.var?_cell hg hv i
  have e : ∀ i : Nat, cs[i]? = l[i]? := fun i => by rw [← hl]; exact Array.getElem?_toList.symm
  exact ⟨(hc _).trans ((e _).trans h0), (hc _).trans ((e _).trans h1), (hc _).trans ((e _).trans h2)⟩
def pI : Fr := ⟨0, 1, 1⟩
def pM : Fr := ⟨-1, 0, 1⟩
def pN : Fr := ⟨0, -1, 1⟩
def mSame : M4 := ⟨f1, f0, f0, f1⟩
def mTurns : M4 := ⟨f1, pI, pM, pN⟩
def ixF (f : Fr) : Nat → Fr := fun _ => f
set_option maxRecDepth 100000 in
theorem gat_zero {l : List (String × DataW Unit)} {W : World} (h : laidMetH Tryd.prog l W) (hp : (l.all fun x => x.2.handleName?.isNone) = true) (hm : ("loop.example/polarisedlight/impl.zero", DataW.agg [.lit (.int .i64 0), .lit (.int .i64 0), .lit (.int .i64 1)]) ∈ l) : Gat W 1 (ixF f0) 1 := by
  rw [MakeChecks.laidMetH_plain _ _ _ hp] at h
  obtain ⟨ps, hv, -, -⟩ := h
  obtain ⟨g, t, cs, fuel, p, e1, e2, e3, e4⟩ := laid_at hv hm
  obtain rfl := Option.some.inj ((show Tryd.prog.globalNamed "loop.example/polarisedlight/impl.zero" = some 1 by kernel_rfl).symm.trans e1)
  obtain rfl := Option.some.inj ((show (Tryd.prog.globals[1]?).map (·.type) = some 23 by kernel_rfl).symm.trans e2)
  refine gat_of e1 e3 (fr_of_trod (f := f0) e4 rfl) (fun j hj => ?_)
  obtain rfl : j = 0 := by omega
  exact ⟨rfl, rfl, rfl⟩
set_option maxRecDepth 100000 in
theorem gat_one {l : List (String × DataW Unit)} {W : World} (h : laidMetH Tryd.prog l W) (hp : (l.all fun x => x.2.handleName?.isNone) = true) (hm : ("loop.example/polarisedlight/impl.one", DataW.agg [.lit (.int .i64 1), .lit (.int .i64 0), .lit (.int .i64 1)]) ∈ l) : Gat W 0 (ixF f1) 1 := by
  rw [MakeChecks.laidMetH_plain _ _ _ hp] at h
  obtain ⟨ps, hv, -, -⟩ := h
  obtain ⟨g, t, cs, fuel, p, e1, e2, e3, e4⟩ := laid_at hv hm
  obtain rfl := Option.some.inj ((show Tryd.prog.globalNamed "loop.example/polarisedlight/impl.one" = some 0 by kernel_rfl).symm.trans e1)
  obtain rfl := Option.some.inj ((show (Tryd.prog.globals[0]?).map (·.type) = some 23 by kernel_rfl).symm.trans e2)
  refine gat_of e1 e3 (fr_of_trod (f := f1) e4 rfl) (fun j hj => ?_)
  obtain rfl : j = 0 := by omega
  exact ⟨rfl, rfl, rfl⟩
set_option maxRecDepth 100000 in
theorem gat_unit {l : List (String × DataW Unit)} {W : World} (h : laidMetH Tryd.prog l W) (hp : (l.all fun x => x.2.handleName?.isNone) = true) (hm : ("loop.example/polarisedlight/impl.unit", DataW.agg [.lit (.int .i64 0), .lit (.int .i64 1), .lit (.int .i64 1)]) ∈ l) : Gat W 2 (ixF pI) 1 := by
  rw [MakeChecks.laidMetH_plain _ _ _ hp] at h
  obtain ⟨ps, hv, -, -⟩ := h
  obtain ⟨g, t, cs, fuel, p, e1, e2, e3, e4⟩ := laid_at hv hm
  obtain rfl := Option.some.inj ((show Tryd.prog.globalNamed "loop.example/polarisedlight/impl.unit" = some 2 by kernel_rfl).symm.trans e1)
  obtain rfl := Option.some.inj ((show (Tryd.prog.globals[2]?).map (·.type) = some 23 by kernel_rfl).symm.trans e2)
  refine gat_of e1 e3 (fr_of_trod (f := pI) e4 rfl) (fun j hj => ?_)
  obtain rfl : j = 0 := by omega
  exact ⟨rfl, rfl, rfl⟩
set_option maxRecDepth 100000 in
theorem gat_turns {l : List (String × DataW Unit)} {W : World} (h : laidMetH Tryd.prog l W) (hp : (l.all fun x => x.2.handleName?.isNone) = true) (hm : ("loop.example/polarisedlight/impl.turns", DataW.agg [.agg [.lit (.int .i64 1), .lit (.int .i64 0), .lit (.int .i64 1)], .agg [.lit (.int .i64 0), .lit (.int .i64 1), .lit (.int .i64 1)], .agg [.lit (.int .i64 (-1)), .lit (.int .i64 0), .lit (.int .i64 1)], .agg [.lit (.int .i64 0), .lit (.int .i64 (-1)), .lit (.int .i64 1)]]) ∈ l) : Gat W 3 mTurns.get 4 := by
  rw [MakeChecks.laidMetH_plain _ _ _ hp] at h
  obtain ⟨ps, hv, -, -⟩ := h
  obtain ⟨g, t, cs, fuel, p, e1, e2, e3, e4⟩ := laid_at hv hm
  obtain rfl := Option.some.inj ((show Tryd.prog.globalNamed "loop.example/polarisedlight/impl.turns" = some 3 by kernel_rfl).symm.trans e1)
  obtain rfl := Option.some.inj ((show (Tryd.prog.globals[3]?).map (·.type) = some 39 by kernel_rfl).symm.trans e2)
  refine gat_of e1 e3 (arr_of_trod (m := mTurns) e4 rfl) (fun j hj => ?_)
  have : j = 0 ∨ j = 1 ∨ j = 2 ∨ j = 3 := by omega
  rcases this with rfl | rfl | rfl | rfl <;> exact ⟨rfl, rfl, rfl⟩
set_option maxRecDepth 100000 in
theorem gat_same {l : List (String × DataW Unit)} {W : World} (h : laidMetH Tryd.prog l W) (hp : (l.all fun x => x.2.handleName?.isNone) = true) (hm : ("loop.example/polarisedlight/impl.same", DataW.agg [.agg [.agg [.lit (.int .i64 1), .lit (.int .i64 0), .lit (.int .i64 1)], .agg [.lit (.int .i64 0), .lit (.int .i64 0), .lit (.int .i64 1)], .agg [.lit (.int .i64 0), .lit (.int .i64 0), .lit (.int .i64 1)], .agg [.lit (.int .i64 1), .lit (.int .i64 0), .lit (.int .i64 1)]]]) ∈ l) : Gat W 4 mSame.get 4 := by
  rw [MakeChecks.laidMetH_plain _ _ _ hp] at h
  obtain ⟨ps, hv, -, -⟩ := h
  obtain ⟨g, t, cs, fuel, p, e1, e2, e3, e4⟩ := laid_at hv hm
  obtain rfl := Option.some.inj ((show Tryd.prog.globalNamed "loop.example/polarisedlight/impl.same" = some 4 by kernel_rfl).symm.trans e1)
  obtain rfl := Option.some.inj ((show (Tryd.prog.globals[4]?).map (·.type) = some 41 by kernel_rfl).symm.trans e2)
  refine gat_of e1 e3 (mat_of_trod (m := mSame) e4 rfl) (fun j hj => ?_)
  have : j = 0 ∨ j = 1 ∨ j = 2 ∨ j = 3 := by omega
  rcases this with rfl | rfl | rfl | rfl <;> exact ⟨rfl, rfl, rfl⟩
end Go.Proofs.YtmcokdiopcpifaaDoor
