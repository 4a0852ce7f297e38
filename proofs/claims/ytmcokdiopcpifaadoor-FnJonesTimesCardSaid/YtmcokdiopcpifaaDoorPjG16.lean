/- Comparing a struct with itself, where it holds an array. -/
import Derived.Test.YtmcokdiopcpifaaDoorPjG1
import Derived.Test.YtmcokdiopcpifaaDoorPjPlain
import Derived.Laws.StructEq
import Derived.Test.YtmcokdiopcpifaaDoorPjDS
import Derived.Test.YtmcokdiopcpifaaDoorPjL
import Derived.LaidMore
import Derived.OpenVars
import Derived.Deep.Strs
import Derived.MakeChecks
import Derived.LaidHandle
import Derived.Test.YtmcokdiopcpifaaDoorPjG12
set_option maxRecDepth 100000
namespace Go.Proofs.YtmcokdiopcpifaaDoor
open Go.RowKit Pol
/-- The places of an array, one by one. -/
def eqPlaces (d : Nat) (e : TypeId) (n : Nat) (xs ys : Array Value) : List Nat → Sem Bool
  | [] => pure true
  | i :: is => do
    let a ← part e xs (i * n)
    let b ← part e ys (i * n)
    let r ← Op.equalIn d e a b
    if (!r) = true then pure false else eqPlaces d e n xs ys is
theorem run_equalIn_array {P : Program} (w : World) (d : Nat) (t e : TypeId) (len n : Nat) (xs ys : Array Value) (ht : P.underlying t = some (.array len e)) (hn : (sizeOf e).run P w = .ok n w) :
    (Op.equalIn (d + 1) t (.agg xs) (.agg ys)).run P w = (eqPlaces d e n xs ys (List.range len)).run P w := by
  simp only [Op.equalIn, Sem.run_bind, run_underlying ht, Result.andThen_ok, hn]
  simp only [Std.Legacy.Range.forIn_eq_forIn_range', Std.Legacy.Range.size, Nat.sub_zero, Nat.add_one_sub_one, Nat.div_one, List.range_eq_range']
  generalize List.range' 0 len = is
  clear ht hn
  induction is generalizing w with
  | nil => simp [eqPlaces]
  | cons i is ih =>
    simp only [List.forIn_cons, eqPlaces, Sem.run_bind, Sem.run_ite]
    generalize (part e xs (i * n)).run P w = r1
    cases r1 with
    | ok a w1 =>
      simp only [Result.andThen_ok]
      generalize (part e ys (i * n)).run P w1 = r2
      cases r2 with
      | ok b w2 =>
        simp only [Result.andThen_ok]
        generalize (Op.equalIn d e a b).run P w2 = r3
        cases r3 with
        | ok r w3 =>
          cases r
          · simp only [Result.andThen_ok, Bool.not_false, if_true, Sem.run_pure]
          · simp only [Result.andThen_ok, Bool.not_true, Bool.false_eq_true, if_false, Sem.run_pure]
            exact ih w3
        | halt x w3 => simp [Result.andThen]
      | halt x w2 => simp [Result.andThen]
    | halt x w1 => simp [Result.andThen]
end Go.Proofs.YtmcokdiopcpifaaDoor
namespace Go.Proofs.YtmcokdiopcpifaaDoor
open Go.ChangeShapes Go.WideShapes Go.ChangeAt Go.RowKit Pol
/-- The code's bytes, read. -/
theorem open_code {H : Type} {enc : TypeId × Value → H} {W : World} {fuel : Nat} {a0 : Option Addr} {len cap : Nat} {x : DataW H × List MemPlace}
    (hf : DataW.trod enc Tryd.prog W 0 (fun _ => true) true fuel 55 (Value.cells (.slice a0 len cap)).toList = some x) (hlt : ∀ y ∈ x.2, y.block < W.heap.size) : len ≤ cap ∧ Code W.heap.size W a0 len := by
  rcases open_ints Tryd.underlying55 Tryd.underlying5 (by kernel_rfl) hf with ⟨hcs, hx⟩ | ⟨a, len', cap', zs, hcs, _, hl, hm, hz, hx, hcell, hwz⟩
  · replace hcs : [Value.slice a0 len cap] = _ := hcs
    simp at hcs
    obtain ⟨rfl, rfl, rfl⟩ := hcs
    exact ⟨Nat.le_refl _, fun i hi => absurd hi (Nat.not_lt_zero _)⟩
  · replace hcs : [Value.slice a0 len cap] = _ := hcs
    simp at hcs
    obtain ⟨rfl, rfl, rfl⟩ := hcs
    subst hx
    refine ⟨hl, fun i hi => ?_⟩
    have hlen : i < zs.length := by rw [hz]; split <;> omega
    obtain ⟨b, off, spot⟩ := a
    have hs0 := World.cell?_spot (hcell 0 (by omega))
    have hspot : spot = none := by simpa [Addr.add] using hs0
    subst hspot
    have ha : (⟨b, off, none⟩ : Addr).add i = ⟨b, off + i, none⟩ := by cases i <;> simp [Addr.add]
    have hc := hcell i hlen
    rw [ha] at hc
    have hb : b < W.heap.size := hlt (.cell b (off + i)) (MemPlace.mem_row.2 ⟨i, hlen, by simp⟩)
    have hw := hwz (zs.getD i 0) (by rw [List.getD_eq_getElem?_getD, List.getElem?_eq_getElem hlen]; exact List.getElem_mem hlen)
    have hw' := bounds_u8 hw
    exact ⟨b, off, rfl, hb, zs.getD i 0, hw'.1, by omega, hc⟩
theorem hd {p : Prop} (h : p) : Hid p := h
end Go.Proofs.YtmcokdiopcpifaaDoor
namespace Go.Proofs.YtmcokdiopcpifaaDoor
open Go.ChangeShapes Go.WideShapes Go.ChangeAt Go.RowKit Pol
/-- Block g holds the n fractions f. -/
structure Gat (w : World) (g : Nat) (f : Nat → Fr) (n : Nat) : Prop where
  lt : g < w.heap.size
  box : BoxAt w g f n
theorem Gat.below {w w' : World} {g n : Nat} {f : Nat → Fr} (h : Gat w g f n) (hb : Below w.heap.size w w') : Gat w' g f n := ⟨Nat.lt_of_lt_of_le h.lt hb.size, h.box.below hb h.lt⟩
theorem vars_len {H : Type} {enc : TypeId × Value → H} {P : Program} {W : World} {sp : Nat → Bool} : ∀ {ns : List String} {gs : List (DataW H)} {ps : List MemPlace}, DataW.TrodVars enc P W sp ns gs ps → gs.length = ns.length
  | [], [], _, _ => rfl
  | [], _ :: _, _, h => h.elim
  | _ :: _, [], _, h => h.elim
  | _ :: _, _ :: _, _, h => by
    obtain ⟨_, _, _, _, _, _, _, _, _, _, hs, _⟩ := h
    simpa using vars_len hs
theorem len1 {α : Type} {l : List α} (h : l.length = 1) : ∃ a, l = [a] := List.length_eq_one_iff.1 h
theorem len2 {α : Type} {l : List α} (h : l.length = 2) : ∃ a b, l = [a, b] := match l, h with | [a, b], _ => ⟨a, b, rfl⟩
theorem laid_at {P : Program} {W : World} {n : String} {d : DataW Unit} : ∀ {l : List (String × DataW Unit)} {ps : List MemPlace}, DataW.LaidVars P W l ps → (n, d) ∈ l →
    ∃ g t cs fuel p, P.globalNamed n = some g ∧ (P.globals[g]?).map (·.type) = some t ∧ W.var? P n = some cs ∧ DataW.trod (fun _ => ()) P W 0 (fun _ => true) false fuel t cs.toList = some (d, p)
  | [], _, _, hm => by cases hm
  | (n', d') :: r, ps, h, hm => by
    obtain ⟨g, t, cs, fuel, p, q, e1, e2, e3, e4, hr, rfl⟩ := h
    rcases List.mem_cons.1 hm with e | hm
    · obtain ⟨rfl, rfl⟩ := Prod.mk.inj e
      exact ⟨g, t, cs, fuel, p, e1, e2, e3, e4⟩
    · exact laid_at hr hm
theorem var_lt {P : Program} {W : World} {n : String} {g : Nat} {cs : Array Value} (hg : P.globalNamed n = some g) (h : W.var? P n = some cs) : g < W.heap.size := by
  unfold World.var? at h
  rw [hg] at h
  simp only [Option.bind_some] at h
  cases hh : W.heap[g]? with
  | none => rw [hh] at h; cases h
  | some o => exact (Array.getElem?_eq_some_iff.1 hh).1
def FD (f : Fr) : DataW Unit := .agg [.lit (.int .i64 f.re), .lit (.int .i64 f.im), .lit (.int .i64 f.den)]
set_option maxRecDepth 100000 in
theorem int_of_trod {W : World} {fuel : Nat} {cs : List Value} {z : Int} {y : DataW Unit × List MemPlace} (h : DataW.trod (fun _ => ()) Tryd.prog W 0 (fun _ => true) false fuel 3 cs = some y) (e : y.1 = .lit (.int .i64 z)) : cs = [.int .i64 z] := by
  obtain ⟨n, rfl, rfl, _⟩ := DataW.trod_int Tryd.underlying3 h
  simp only [DataW.lit.injEq, Lit.int.injEq] at e
  rw [e.2]
set_option maxRecDepth 100000 in
theorem fr_of_trod {W : World} {fuel : Nat} {cs : List Value} {f : Fr} {y : DataW Unit × List MemPlace} (h : DataW.trod (fun _ => ()) Tryd.prog W 0 (fun _ => true) false fuel 23 cs = some y) (e : y.1 = FD f) : cs = [.int .i64 f.re, .int .i64 f.im, .int .i64 f.den] := by
  obtain ⟨y0, y1, y2, n, rfl, hl, h0, h1, h2⟩ := Go.Deep.trod_struct3 Tryd.underlying23 h
  have c3 : Tryd.prog.cellsOf 23 = 3 := by kernel_rfl
  have c1 : Tryd.prog.cellsOf 3 = 1 := by kernel_rfl
  rw [c3] at hl
  simp only [FD, DataW.agg.injEq, List.cons.injEq, and_true] at e
  match cs, hl with
  | [a, b, c], _ =>
    have k0 := int_of_trod h0 e.1
    have k1 := int_of_trod h1 e.2.1
    have k2 := int_of_trod h2 e.2.2
    rw [c1] at k0 k1 k2
    simp at k0 k1 k2
    rw [k0, k1, k2]
set_option maxRecDepth 100000 in
theorem gat_of {W : World} {n : String} {g : Nat} {cs : Array Value} {f : Nat → Fr} {k : Nat} {l : List Value} (hg : Tryd.prog.globalNamed n = some g) (hv : W.var? Tryd.prog n = some cs) (hl : cs.toList = l) (hk : ∀ j, j < k → l[j * 3]? = some (.int .i64 (f j).re) ∧ l[j * 3 + 1]? = some (.int .i64 (f j).im) ∧ l[j * 3 + 2]? = some (.int .i64 (f j).den)) : Gat W g f k := by
  refine ⟨var_lt hg hv, fun j hj => ?_⟩
  obtain ⟨h0, h1, h2⟩ := hk j hj
  have hc := fun i => World.var?_cell hg hv i
  have e : ∀ i : Nat, cs[i]? = l[i]? := fun i => by rw [← hl]; exact Array.getElem?_toList.symm
  exact ⟨(hc _).trans ((e _).trans h0), (hc _).trans ((e _).trans h1), (hc _).trans ((e _).trans h2)⟩
def pI : Fr := ⟨0, 1, 1⟩
def ixF (f : Fr) : Nat → Fr := fun _ => f
set_option maxRecDepth 100000 in
theorem gat_zero {l : List (String × DataW Unit)} {W : World} (h : laidMetH Tryd.prog l W) (hp : (l.all fun x => x.2.handleName?.isNone) = true) (hm : ("loop.example/polarisedlight/impl.zero", DataW.agg [.lit (.int .i64 0), .lit (.int .i64 0), .lit (.int .i64 1)]) ∈ l) : Gat W 1 (ixF f0) 1 := by
  rw [MakeChecks.laidMetH_plain _ _ _ hp] at h
  obtain ⟨ps, hv, -, -⟩ := h
  obtain ⟨g, t, cs, fuel, p, e1, e2, e3, e4⟩ := laid_at hv hm
  obtain rfl := Option.some.inj ((show Tryd.prog.globalNamed "loop.example/polarisedlight/impl.zero" = some 1 by kernel_rfl).symm.trans e1)
  obtain rfl := Option.some.inj ((show (Tryd.prog.globals[1]?).map (·.type) = some 23 by kernel_rfl).symm.trans e2)
  refine gat_of e1 e3 (fr_of_trod (f := f0) e4 rfl) (fun j hj => ?_)
  obtain rfl : j = 0 := by omega
  exact ⟨rfl, rfl, rfl⟩
set_option maxRecDepth 100000 in
theorem gat_unit {l : List (String × DataW Unit)} {W : World} (h : laidMetH Tryd.prog l W) (hp : (l.all fun x => x.2.handleName?.isNone) = true) (hm : ("loop.example/polarisedlight/impl.unit", DataW.agg [.lit (.int .i64 0), .lit (.int .i64 1), .lit (.int .i64 1)]) ∈ l) : Gat W 2 (ixF pI) 1 := by
  rw [MakeChecks.laidMetH_plain _ _ _ hp] at h
  obtain ⟨ps, hv, -, -⟩ := h
  obtain ⟨g, t, cs, fuel, p, e1, e2, e3, e4⟩ := laid_at hv hm
  obtain rfl := Option.some.inj ((show Tryd.prog.globalNamed "loop.example/polarisedlight/impl.unit" = some 2 by kernel_rfl).symm.trans e1)
  obtain rfl := Option.some.inj ((show (Tryd.prog.globals[2]?).map (·.type) = some 23 by kernel_rfl).symm.trans e2)
  refine gat_of e1 e3 (fr_of_trod (f := pI) e4 rfl) (fun j hj => ?_)
  obtain rfl : j = 0 := by omega
  exact ⟨rfl, rfl, rfl⟩
end Go.Proofs.YtmcokdiopcpifaaDoor
namespace Pol
def accQ (a : M4) : Nat → Fr
  | 0 => f0
  | m + 1 => if m = 0 then f0 else (fAdd (accQ a m) (fTimes (a.get m) (a.get m)).1).1
def tQ (a : M4) (m : Nat) : Fr × Bool := fTimes (a.get m) (a.get m)
def nQ (a : M4) (m : Nat) : Fr × Bool := fAdd (accQ a m) (tQ a m).1
theorem accQ_one (a : M4) : accQ a 1 = f0 := rfl
theorem accQ_next (a : M4) {m : Nat} (h : 1 ≤ m) : accQ a (m + 1) = (nQ a m).1 := by
  show (if m = 0 then f0 else _) = _
  rw [if_neg (by omega)]; rfl
theorem fAdd_f0 {t : Fr} (h : vld t = true) : fAdd f0 t = (t, true) := by
  have h0 : vld f0 = true := by decide
  have hr : rv f0 = 0 := (rv_zero h0).2 rfl
  have hi : iv f0 = 0 := (iv_zero h0).2 rfl
  exact fAdd_ok.2 ⟨h0, h, h, by rw [hr]; simp [Rat.zero_add], by rw [hi]; simp [Rat.zero_add]⟩
theorem sSq_bad0 {a : M4} (h : all4 realB a = false) : sSq a = (fz, false) := by unfold sSq gt; rw [h]; simp
theorem tQ_vld {a : M4} {m : Nat} (h : (tQ a m).2 = true) : vld (tQ a m).1 = true := (fTimes_vld h).2.2
/-- What the reference makes of it. -/
theorem sSq_all {a : M4} (hv : all4 realB a = true) (h : ∀ m, 1 ≤ m → m < 4 → (tQ a m).2 = true ∧ (nQ a m).2 = true) : sSq a = (accQ a 4, true) := by
  have t1 := (h 1 (by omega) (by omega)).1
  have t2 := (h 2 (by omega) (by omega)).1
  have n2 := (h 2 (by omega) (by omega)).2
  have t3 := (h 3 (by omega) (by omega)).1
  have n3 := (h 3 (by omega) (by omega)).2
  have a2 : accQ a 2 = (fTimes a.b a.b).1 := by
    rw [accQ_next a (by omega)]; unfold nQ; rw [accQ_one]
    show (fAdd f0 (tQ a 1).1).1 = _
    rw [fAdd_f0 (tQ_vld t1)]; rfl
  have e2 : nQ a 2 = fAdd (fTimes a.b a.b).1 (fTimes a.c a.c).1 := by unfold nQ; rw [a2]; rfl
  have a3 : accQ a 3 = (fAdd (fTimes a.b a.b).1 (fTimes a.c a.c).1).1 := by rw [accQ_next a (by omega), e2]
  have e3 : nQ a 3 = fAdd (fAdd (fTimes a.b a.b).1 (fTimes a.c a.c).1).1 (fTimes a.d a.d).1 := by unfold nQ; rw [a3]; rfl
  have a4 : accQ a 4 = (fAdd (fAdd (fTimes a.b a.b).1 (fTimes a.c a.c).1).1 (fTimes a.d a.d).1).1 := by rw [accQ_next a (by omega), e3]
  rw [e2] at n2; rw [e3] at n3
  have t1' : (fTimes a.b a.b).2 = true := t1
  have t2' : (fTimes a.c a.c).2 = true := t2
  have t3' : (fTimes a.d a.d).2 = true := t3
  unfold sSq gt; rw [hv, t1', t2', t3', n2, n3, a4]; rfl
theorem sSq_badm {a : M4} {m : Nat} (h1 : 1 ≤ m) (h4 : m < 4) (hg : ∀ j, 1 ≤ j → j < m → (tQ a j).2 = true ∧ (nQ a j).2 = true) (hb : (tQ a m).2 = false ∨ (nQ a m).2 = false) : sSq a = (fz, false) := by
  have key : ∀ e, sSq a = gt fz e (fAdd (fAdd (fTimes a.b a.b).1 (fTimes a.c a.c).1).1 (fTimes a.d a.d).1).1 → e = true → sSq a = (fz, false) := fun e h he => by rw [h, he]; rfl
  refine key _ rfl ?_
  have n1 : (tQ a 1).2 = true → (nQ a 1).2 = true := fun t1 => by unfold nQ; rw [accQ_one, fAdd_f0 (tQ_vld t1)]
  have a2 : (tQ a 1).2 = true → accQ a 2 = (fTimes a.b a.b).1 := fun t1 => by
    rw [accQ_next a (by omega)]; unfold nQ; rw [accQ_one]
    show (fAdd f0 (tQ a 1).1).1 = _
    rw [fAdd_f0 (tQ_vld t1)]; rfl
  have e2 : (tQ a 1).2 = true → nQ a 2 = fAdd (fTimes a.b a.b).1 (fTimes a.c a.c).1 := fun t1 => by unfold nQ; rw [a2 t1]; rfl
  have e3 : (tQ a 1).2 = true → nQ a 3 = fAdd (fAdd (fTimes a.b a.b).1 (fTimes a.c a.c).1).1 (fTimes a.d a.d).1 := fun t1 => by
    unfold nQ; rw [accQ_next a (by omega), e2 t1]; rfl
  have : m = 1 ∨ m = 2 ∨ m = 3 := by omega
  rcases this with rfl | rfl | rfl
  · have hb' : (fTimes a.b a.b).2 = false := by
      rcases hb with h | h
      · exact h
      · cases ht : (tQ a 1).2
        · exact ht
        · rw [n1 ht] at h; cases h
    rw [hb']; simp
  · have t1 := (hg 1 (by omega) (by omega)).1
    rcases hb with h | h
    · have h' : (fTimes a.c a.c).2 = false := h
      rw [h']; simp
    · rw [e2 t1] at h; rw [h]; simp
  · have t1 := (hg 1 (by omega) (by omega)).1
    rcases hb with h | h
    · have h' : (fTimes a.d a.d).2 = false := h
      rw [h']; simp
    · rw [e3 t1] at h; rw [h]; simp
end Pol
