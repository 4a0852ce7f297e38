/- Plain facts: a multiple of the table that changes nothing, upon the light of (1, 1). -/
import Derived.Test.YtmcokdiopcpifaaDoorUnTB
import Derived.Test.YtmcokdiopcpifaaDoorUnG5
import Derived.Test.YtmcokdiopcpifaaDoorUnQR
import Derived.Test.YtmcokdiopcpifaaDoorUnG7
set_option maxRecDepth 100000
namespace Go.Proofs.YtmcokdiopcpifaaDoor
open Go.RowKit Pol
def uS : M4 := ⟨⟨2, 0, 1⟩, ⟨0, 0, 1⟩, ⟨2, 0, 1⟩, ⟨0, 0, 1⟩⟩
def uM (n : Int) : M4 := ⟨⟨2 * n, 0, 1⟩, ⟨0, 0, 1⟩, ⟨2 * n, 0, 1⟩, ⟨0, 0, 1⟩⟩
def uJ : J2 := ⟨⟨1, 0, 1⟩, ⟨1, 0, 1⟩⟩
def uP (n : Int) (r : Nat) : Fr := if r = 0 then ⟨2 * n, 0, 1⟩ else if r = 2 then ⟨2 * n, 0, 1⟩ else ⟨0, 0, 1⟩
def uA (n : Int) (r k : Nat) : Fr := if r < k then uP n r else ⟨0, 0, 1⟩
def uD (n : Int) (r k : Nat) : Fr := if r = k then uP n r else ⟨0, 0, 1⟩
theorem int_vld {n : Int} (h1 : -2000000000 ≤ n) (h2 : n ≤ 2000000000) : vld ⟨n, 0, 1⟩ = true :=
  (vld_iff _).2 ⟨⟨h1, h2⟩, by show (-2000000000 : Int) ≤ 0 ∧ (0 : Int) ≤ 2000000000; omega, by show (1 : Int) ≤ 1 ∧ (1 : Int) ≤ 2000000000; omega, by unfold g3 gc; simp⟩
theorem int_rv (n : Int) : rv ⟨n, 0, 1⟩ = n := by
  show (n : Rat) / ((1 : Int) : Rat) = n
  grind
theorem int_iv (n : Int) : iv ⟨n, 0, 1⟩ = 0 := by
  show ((0 : Int) : Rat) / ((1 : Int) : Rat) = 0
  grind
theorem int_times {a b c : Int} (ha : -2000000000 ≤ a ∧ a ≤ 2000000000) (hb : -2000000000 ≤ b ∧ b ≤ 2000000000) (hc : -2000000000 ≤ c ∧ c ≤ 2000000000) (h : a * b = c) : fTimes ⟨a, 0, 1⟩ ⟨b, 0, 1⟩ = (⟨c, 0, 1⟩, true) :=
  fTimes_ok.2 ⟨int_vld ha.1 ha.2, int_vld hb.1 hb.2, int_vld hc.1 hc.2, by rw [int_rv, int_rv, int_rv, int_iv, int_iv, ← h, Rat.intCast_mul]; grind, by rw [int_iv, int_iv, int_iv]; grind⟩
theorem int_add {a b c : Int} (ha : -2000000000 ≤ a ∧ a ≤ 2000000000) (hb : -2000000000 ≤ b ∧ b ≤ 2000000000) (hc : -2000000000 ≤ c ∧ c ≤ 2000000000) (h : a + b = c) : fAdd ⟨a, 0, 1⟩ ⟨b, 0, 1⟩ = (⟨c, 0, 1⟩, true) :=
  fAdd_ok.2 ⟨int_vld ha.1 ha.2, int_vld hb.1 hb.2, int_vld hc.1 hc.2, by rw [int_rv, int_rv, int_rv, ← h, Rat.intCast_add], by rw [int_iv, int_iv, int_iv]; grind⟩
theorem int_real {n : Int} (h1 : -2000000000 ≤ n) (h2 : n ≤ 2000000000) : realB ⟨n, 0, 1⟩ = true := realB_iff.2 ⟨int_vld h1 h2, rfl⟩
theorem apre_of {p : Fr → Bool} {g : Nat → Fr} : ∀ n, (∀ k, k < n → p (g k) = true) → apre p g n = true
  | 0, _ => rfl
  | n + 1, h => apre_s (apre_of n (fun k hk => h k (by omega))) (h n (by omega))
theorem unit_valid {n : Int} (h1 : -1000 ≤ n) (h2 : n ≤ 1000) : all16 realB (m16 ⟨n, 0, 1⟩ ⟨n, 0, 1⟩) = true := by
  refine apre_of 16 fun k hk => ?_
  have hN : realB ⟨n, 0, 1⟩ = true := int_real (by omega) (by omega)
  have h0 : realB f0 = true := by decide
  rcases cases16 hk with rfl | rfl | rfl | rfl | rfl | rfl | rfl | rfl | rfl | rfl | rfl | rfl | rfl | rfl | rfl | rfl <;> first | exact h0 | exact hN
theorem unit_0 {n : Int} (h1 : -1000 ≤ n) (h2 : n ≤ 1000) : ∀ r, r < 4 → fTimes ((m16 ⟨n, 0, 1⟩ ⟨n, 0, 1⟩).get (4 * r)) (uS.get 0) = (uA n r 1, true) := by
  intro r hr
  have hn : fTimes ⟨n, 0, 1⟩ ⟨2, 0, 1⟩ = (⟨2 * n, 0, 1⟩, true) := int_times (by omega) (by omega) (by omega) (by omega)
  have hz : fTimes ⟨0, 0, 1⟩ ⟨2, 0, 1⟩ = (⟨0, 0, 1⟩, true) := int_times (by omega) (by omega) (by omega) (by omega)
  have e : r = 0 ∨ r = 1 ∨ r = 2 ∨ r = 3 := by omega
  rcases e with rfl | rfl | rfl | rfl <;> first | exact hz | exact hn
theorem unit_p {n : Int} (h1 : -1000 ≤ n) (h2 : n ≤ 1000) : ∀ r k, r < 4 → 1 ≤ k → k < 4 → fTimes ((m16 ⟨n, 0, 1⟩ ⟨n, 0, 1⟩).get (4 * r + k)) (uS.get k) = (uD n r k, true) := by
  intro r k hr hk hk4
  have a1 : fTimes ⟨n, 0, 1⟩ ⟨2, 0, 1⟩ = (⟨2 * n, 0, 1⟩, true) := int_times (by omega) (by omega) (by omega) (by omega)
  have a2 : fTimes ⟨n, 0, 1⟩ ⟨0, 0, 1⟩ = (⟨0, 0, 1⟩, true) := int_times (by omega) (by omega) (by omega) (by omega)
  have a3 : fTimes ⟨0, 0, 1⟩ ⟨2, 0, 1⟩ = (⟨0, 0, 1⟩, true) := int_times (by omega) (by omega) (by omega) (by omega)
  have a4 : fTimes ⟨0, 0, 1⟩ ⟨0, 0, 1⟩ = (⟨0, 0, 1⟩, true) := int_times (by omega) (by omega) (by omega) (by omega)
  have e : r = 0 ∨ r = 1 ∨ r = 2 ∨ r = 3 := by omega
  have f : k = 1 ∨ k = 2 ∨ k = 3 := by omega
  rcases e with rfl | rfl | rfl | rfl <;> rcases f with rfl | rfl | rfl <;> first | exact a4 | exact a3 | exact a2 | exact a1
theorem unit_a {n : Int} (h1 : -1000 ≤ n) (h2 : n ≤ 1000) : ∀ r k, r < 4 → 1 ≤ k → k < 4 → fAdd (uA n r k) (uD n r k) = (uA n r (k + 1), true) := by
  intro r k hr hk hk4
  have a1 : fAdd ⟨0, 0, 1⟩ ⟨0, 0, 1⟩ = (⟨0, 0, 1⟩, true) := int_add (by omega) (by omega) (by omega) (by omega)
  have a2 : fAdd ⟨2 * n, 0, 1⟩ ⟨0, 0, 1⟩ = (⟨2 * n, 0, 1⟩, true) := int_add (by omega) (by omega) (by omega) (by omega)
  have a3 : fAdd ⟨0, 0, 1⟩ ⟨2 * n, 0, 1⟩ = (⟨2 * n, 0, 1⟩, true) := int_add (by omega) (by omega) (by omega) (by omega)
  have e : r = 0 ∨ r = 1 ∨ r = 2 ∨ r = 3 := by omega
  have f : k = 1 ∨ k = 2 ∨ k = 3 := by omega
  rcases e with rfl | rfl | rfl | rfl <;> rcases f with rfl | rfl | rfl <;> first | exact a1 | exact a2 | exact a3
theorem unit_m {n : Int} : ∀ j, j < 4 → (uM n).get j = uA n j 4 := by
  intro j hj
  have e : j = 0 ∨ j = 1 ∨ j = 2 ∨ j = 3 := by omega
  rcases e with rfl | rfl | rfl | rfl <;> rfl
theorem unit_tim {n : Int} (h1 : -1000 ≤ n) (h2 : n ≤ 1000) : sTim uS ⟨n, 0, 1⟩ = (uM n, true) := by
  have a1 : fTimes ⟨2, 0, 1⟩ ⟨n, 0, 1⟩ = (⟨2 * n, 0, 1⟩, true) := int_times (by omega) (by omega) (by omega) (by omega)
  have a2 : fTimes ⟨0, 0, 1⟩ ⟨n, 0, 1⟩ = (⟨0, 0, 1⟩, true) := int_times (by omega) (by omega) (by omega) (by omega)
  have hs : all4 realB uS = true := by decide
  have hn : realB ⟨n, 0, 1⟩ = true := int_real (by omega) (by omega)
  have f0' : sTimF uS ⟨n, 0, 1⟩ 0 = (⟨2 * n, 0, 1⟩, true) := a1
  have f1' : sTimF uS ⟨n, 0, 1⟩ 1 = (⟨0, 0, 1⟩, true) := a2
  have f2' : sTimF uS ⟨n, 0, 1⟩ 2 = (⟨2 * n, 0, 1⟩, true) := a1
  have f3' : sTimF uS ⟨n, 0, 1⟩ 3 = (⟨0, 0, 1⟩, true) := a2
  unfold sTim
  rw [hs, hn]
  show m4l false _ = _
  rw [m4l_good (fun k hk => by
    have e : k = 0 ∨ k = 1 ∨ k = 2 ∨ k = 3 := by omega
    rcases e with rfl | rfl | rfl | rfl
    · rw [f0']
    · rw [f1']
    · rw [f2']
    · rw [f3'])]
  unfold m4f
  rw [f0', f1', f2', f3']
  rfl
/-- A load whose guard is on. -/
theorem wpList_load_gd {P : Program} {ops : Array Oper} {rest : List Oper} {op : Oper} {a : Act} {w : World} {Q : Exit → Act → World → Prop} (hgd : Region.wanted op (yielded ops a.tmps) = true) (ty : TypeId) (x : Operand) (ho : op.op = .load ty x)
    (b o : Nat) (hx : a.eval x = .pointer (some ⟨b, o, none⟩)) (cs : List Value) (d : TypeDesc) (hc : w.rangeAt b o cs)
    (hu : P.underlying ty = some d) (hd : d.isRow = true) (hi : (P.info? ty).map (·.size) = some cs.length)
    (h : wpList P ops Q rest (a.put op.dst (.agg cs.toArray)) w) : wpList P ops Q (op :: rest) a w :=
  wpList_step fun K hK => by rw [if_pos hgd]; exact wp_load_mid ty x ho b o hx cs d hc hu hd hi (hK _ _ h)
theorem unit_sof : sOf uJ = (uS, true) := by kernel_rfl
theorem cl16U (m : M16) : (cl m.get 16).toArray = #[.int .i64 m.a.a.re, .int .i64 m.a.a.im, .int .i64 m.a.a.den, .int .i64 m.a.b.re, .int .i64 m.a.b.im, .int .i64 m.a.b.den, .int .i64 m.a.c.re, .int .i64 m.a.c.im, .int .i64 m.a.c.den, .int .i64 m.a.d.re, .int .i64 m.a.d.im, .int .i64 m.a.d.den, .int .i64 m.b.a.re, .int .i64 m.b.a.im, .int .i64 m.b.a.den, .int .i64 m.b.b.re, .int .i64 m.b.b.im, .int .i64 m.b.b.den, .int .i64 m.b.c.re, .int .i64 m.b.c.im, .int .i64 m.b.c.den, .int .i64 m.b.d.re, .int .i64 m.b.d.im, .int .i64 m.b.d.den, .int .i64 m.c.a.re, .int .i64 m.c.a.im, .int .i64 m.c.a.den, .int .i64 m.c.b.re, .int .i64 m.c.b.im, .int .i64 m.c.b.den, .int .i64 m.c.c.re, .int .i64 m.c.c.im, .int .i64 m.c.c.den, .int .i64 m.c.d.re, .int .i64 m.c.d.im, .int .i64 m.c.d.den, .int .i64 m.d.a.re, .int .i64 m.d.a.im, .int .i64 m.d.a.den, .int .i64 m.d.b.re, .int .i64 m.d.b.im, .int .i64 m.d.b.den, .int .i64 m.d.c.re, .int .i64 m.d.c.im, .int .i64 m.d.c.den, .int .i64 m.d.d.re, .int .i64 m.d.d.im, .int .i64 m.d.d.den] := by kernel_rfl
set_option maxRecDepth 100000 in
theorem eqTab_run (t : M16) (w : World) : (Op.equalIn 10000 26 (.agg #[.int .i64 t.a.a.re, .int .i64 t.a.a.im, .int .i64 t.a.a.den, .int .i64 t.a.b.re, .int .i64 t.a.b.im, .int .i64 t.a.b.den, .int .i64 t.a.c.re, .int .i64 t.a.c.im, .int .i64 t.a.c.den, .int .i64 t.a.d.re, .int .i64 t.a.d.im, .int .i64 t.a.d.den, .int .i64 t.b.a.re, .int .i64 t.b.a.im, .int .i64 t.b.a.den, .int .i64 t.b.b.re, .int .i64 t.b.b.im, .int .i64 t.b.b.den, .int .i64 t.b.c.re, .int .i64 t.b.c.im, .int .i64 t.b.c.den, .int .i64 t.b.d.re, .int .i64 t.b.d.im, .int .i64 t.b.d.den, .int .i64 t.c.a.re, .int .i64 t.c.a.im, .int .i64 t.c.a.den, .int .i64 t.c.b.re, .int .i64 t.c.b.im, .int .i64 t.c.b.den, .int .i64 t.c.c.re, .int .i64 t.c.c.im, .int .i64 t.c.c.den, .int .i64 t.c.d.re, .int .i64 t.c.d.im, .int .i64 t.c.d.den, .int .i64 t.d.a.re, .int .i64 t.d.a.im, .int .i64 t.d.a.den, .int .i64 t.d.b.re, .int .i64 t.d.b.im, .int .i64 t.d.b.den, .int .i64 t.d.c.re, .int .i64 t.d.c.im, .int .i64 t.d.c.den, .int .i64 t.d.d.re, .int .i64 t.d.d.im, .int .i64 t.d.d.den]) (.agg #[.int .i64 t.a.a.re, .int .i64 t.a.a.im, .int .i64 t.a.a.den, .int .i64 t.a.b.re, .int .i64 t.a.b.im, .int .i64 t.a.b.den, .int .i64 t.a.c.re, .int .i64 t.a.c.im, .int .i64 t.a.c.den, .int .i64 t.a.d.re, .int .i64 t.a.d.im, .int .i64 t.a.d.den, .int .i64 t.b.a.re, .int .i64 t.b.a.im, .int .i64 t.b.a.den, .int .i64 t.b.b.re, .int .i64 t.b.b.im, .int .i64 t.b.b.den, .int .i64 t.b.c.re, .int .i64 t.b.c.im, .int .i64 t.b.c.den, .int .i64 t.b.d.re, .int .i64 t.b.d.im, .int .i64 t.b.d.den, .int .i64 t.c.a.re, .int .i64 t.c.a.im, .int .i64 t.c.a.den, .int .i64 t.c.b.re, .int .i64 t.c.b.im, .int .i64 t.c.b.den, .int .i64 t.c.c.re, .int .i64 t.c.c.im, .int .i64 t.c.c.den, .int .i64 t.c.d.re, .int .i64 t.c.d.im, .int .i64 t.c.d.den, .int .i64 t.d.a.re, .int .i64 t.d.a.im, .int .i64 t.d.a.den, .int .i64 t.d.b.re, .int .i64 t.d.b.im, .int .i64 t.d.b.den, .int .i64 t.d.c.re, .int .i64 t.d.c.im, .int .i64 t.d.c.den, .int .i64 t.d.d.re, .int .i64 t.d.d.im, .int .i64 t.d.d.den])).run Tryd.prog w = .ok true w := by
  rw [run_equalIn_agg w 9999 26 _ _ (by kernel_rfl) (by kernel_rfl)]
  simp [go_sem, Tryd.underlying26]
  rw [run_equalIn_array w 9998 24 23 16 3 _ _ Tryd.underlying24 (by rfl)]
  simp [eqPlaces, go_sem, Tryd.underlying23, List.range, List.range.loop]
theorem eqTab_cl (t : M16) (w : World) : (Op.equalIn 10000 26 (.agg (cl t.get 16).toArray) (.agg (cl t.get 16).toArray)).run Tryd.prog w = .ok true w := by
  rw [cl16U t]; exact eqTab_run t w
set_option maxRecDepth 100000 in
set_option maxHeartbeats 4000000 in
theorem DrawTableUnit_any (a0 : Option Addr) (len cap : Nat) (w : World) (hc : len ≤ cap) (HC : Code w.heap.size w a0 len) :
    Calls Tryd.prog 45 #[.slice a0 len cap] w fun e w' => ∃ n : Int, e = .returned (.int .i64 n) ∧ Below w.heap.size w w' := by
  go_enter Tryd.func45, Tryd.ntmps45
  go_wp2_with fail
  refine (open_any w.heap.size a0 len cap _ (Nat.le_refl _) hc HC).mono ?_
  rintro e w1 ⟨R, len', rfl, hb, hRb, hR⟩
  have HB := Lib.hid hb
  have hRl := hR.lt
  clear hb
  go_wp2_with fail
  refine (pick_any 9 (by omega) (by omega) (by omega) hR).mono ?_
  rintro e w3 ⟨v, rfl, ⟨m, rfl, m0, m1⟩, hO, hR3⟩
  have HB := Lib.hid (hO.mine HB.out (by omega))
  clear hR hO
  go_wp2_with fail
  refine (pick_any 20 (by omega) (by omega) (by omega) hR3).mono ?_
  rintro e w4 ⟨v, rfl, ⟨n, rfl, n0, n1⟩, hO, hR4⟩
  have HB := Lib.hid (hO.mine HB.out (by omega))
  clear hR3 hO hR4
  have hd : 0 ≤ n.tdiv 19 ∧ n.tdiv 19 ≤ 1 := by
    rw [Int.tdiv_eq_ediv_of_nonneg n0]
    omega
  have hd0 := hd.1
  have hd1 := hd.2
  go_wp2
  go_ret
  exact ⟨_, rfl, HB.out⟩
end Go.Proofs.YtmcokdiopcpifaaDoor
