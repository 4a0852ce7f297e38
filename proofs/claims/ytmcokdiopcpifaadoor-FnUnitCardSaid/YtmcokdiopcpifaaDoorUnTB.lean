/- Contracts: tables with few numbers on the diagonal, both sides. -/
import Derived.Test.YtmcokdiopcpifaaDoorUnG5
import Derived.Test.YtmcokdiopcpifaaDoorUnG7
import Derived.Test.YtmcokdiopcpifaaDoorUnE
import Derived.Test.YtmcokdiopcpifaaDoorUnG9
import Derived.Test.YtmcokdiopcpifaaDoorUnSG
set_option maxRecDepth 100000
namespace Go.Proofs.YtmcokdiopcpifaaDoor
open Go.RowKit Pol
/-- f, and three times r, on the diagonal. -/
def m16 (f r : Fr) : M16 := ⟨⟨f, f0, f0, f0⟩, ⟨f0, r, f0, f0⟩, ⟨f0, f0, r, f0⟩, ⟨f0, f0, f0, r⟩⟩
def m16z : M16 := ⟨⟨fz, fz, fz, fz⟩, ⟨fz, fz, fz, fz⟩, ⟨fz, fz, fz, fz⟩, ⟨fz, fz, fz, fz⟩⟩
theorem BoxAt.congr {w : World} {N n : Nat} {g h : Nat → Fr} (b : BoxAt w N g n) (e : ∀ k, k < n → g k = h k) : BoxAt w N h n := fun k hk => by rw [← e k hk]; exact b k hk
theorem BoxAt.upd {w : World} {N n k : Nat} {g : Nat → Fr} (h : BoxAt w N g n) (r : Room w N n) (hk : k < n) (f : Fr) : BoxAt (putF w N k f) N (fun j => if j = k then f else g j) n := by
  have same : ∀ (w : World) (o : Nat) (v : Value), Room w N n → o < n * 3 → (w.setCell ⟨N, o, none⟩ v).cell? ⟨N, o, none⟩ = some v := fun w o v r ho => World.cell?_setCell_same' _ _ _ (r o ho).1
  have oth : ∀ (w : World) (o p : Nat) (v : Value), o ≠ p → (w.setCell ⟨N, o, none⟩ v).cell? ⟨N, p, none⟩ = w.cell? ⟨N, p, none⟩ := fun w o p v hn => World.cell?_setCell_other _ _ _ _ (ne_off hn)
  intro j hj
  show (putF w N k f).cell? _ = some (.int .i64 (if j = k then f else g j).re) ∧ (putF w N k f).cell? _ = some (.int .i64 (if j = k then f else g j).im) ∧ (putF w N k f).cell? _ = some (.int .i64 (if j = k then f else g j).den)
  unfold putF
  by_cases e : j = k
  · rw [if_pos e]
    subst e
    refine ⟨?_, ?_, ?_⟩
    · rw [oth _ _ _ _ (by omega), oth _ _ _ _ (by omega), same _ _ _ r (by omega)]
    · rw [oth _ _ _ _ (by omega), same _ _ _ (r.set _ _) (by omega)]
    · rw [same _ _ _ ((r.set _ _).set _ _) (by omega)]
  · rw [if_neg e]
    obtain ⟨h1, h2, h3⟩ := h j hj
    refine ⟨?_, ?_, ?_⟩ <;> rw [oth _ _ _ _ (by omega), oth _ _ _ _ (by omega), oth _ _ _ _ (by omega)] <;> assumption
/-- One more place. -/
theorem BoxAt.more {w : World} {N n k : Nat} {g : Nat → Fr} (h : BoxAt w N g k) (r : Room w N n) (hk : k < n) (f : Fr) (e : g k = f) : BoxAt (putF w N k f) N g (k + 1) := e ▸ BoxAt.put h r hk
/-- A place beyond those that are done. -/
theorem BoxAt.beyond {w : World} {N k : Nat} {g : Nat → Fr} (h : BoxAt w N g k) (f : Fr) : BoxAt (putF w N k f) N g k := fun j hj => by
  have oth : ∀ (w : World) (o p : Nat) (v : Value), o ≠ p → (w.setCell ⟨N, o, none⟩ v).cell? ⟨N, p, none⟩ = w.cell? ⟨N, p, none⟩ := fun w o p v hn => World.cell?_setCell_other _ _ _ _ (ne_off hn)
  obtain ⟨h1, h2, h3⟩ := h j hj
  unfold putF
  refine ⟨?_, ?_, ?_⟩ <;> rw [oth _ _ _ _ (by omega), oth _ _ _ _ (by omega), oth _ _ _ _ (by omega)] <;> assumption
theorem cases16 {j : Nat} (h : j < 16) : j = 0 ∨ j = 1 ∨ j = 2 ∨ j = 3 ∨ j = 4 ∨ j = 5 ∨ j = 6 ∨ j = 7 ∨ j = 8 ∨ j = 9 ∨ j = 10 ∨ j = 11 ∨ j = 12 ∨ j = 13 ∨ j = 14 ∨ j = 15 := by omega
theorem diag_i (f r : Fr) {j : Nat} (h : j < 16) : (if j = 15 then r else if j = 10 then r else if j = 5 then r else if j = 0 then f else f0) = (m16 f r).get j := by
  rcases cases16 h with rfl | rfl | rfl | rfl | rfl | rfl | rfl | rfl | rfl | rfl | rfl | rfl | rfl | rfl | rfl | rfl <;> rfl
theorem diag_s (f r : Fr) {j : Nat} (h : j < 16) : (if j = 0 then f else if j % 5 = 0 then r else f0) = (m16 f r).get j := by
  rcases cases16 h with rfl | rfl | rfl | rfl | rfl | rfl | rfl | rfl | rfl | rfl | rfl | rfl | rfl | rfl | rfl | rfl <;> rfl
theorem cell_dr (w : World) (p : Addr) : w.drew.cell? p = w.cell? p := rfl
theorem ne3 (n : Nat) : n + 1 + 1 + 1 ≠ n := by omega
theorem ne2 (n : Nat) : n + 1 + 1 + 1 ≠ n + 1 := by omega
theorem zeros16 : (cl m16z.get 16).toArray = #[.int .i64 0, .int .i64 0, .int .i64 0, .int .i64 0, .int .i64 0, .int .i64 0, .int .i64 0, .int .i64 0, .int .i64 0, .int .i64 0, .int .i64 0, .int .i64 0, .int .i64 0, .int .i64 0, .int .i64 0, .int .i64 0, .int .i64 0, .int .i64 0, .int .i64 0, .int .i64 0, .int .i64 0, .int .i64 0, .int .i64 0, .int .i64 0, .int .i64 0, .int .i64 0, .int .i64 0, .int .i64 0, .int .i64 0, .int .i64 0, .int .i64 0, .int .i64 0, .int .i64 0, .int .i64 0, .int .i64 0, .int .i64 0, .int .i64 0, .int .i64 0, .int .i64 0, .int .i64 0, .int .i64 0, .int .i64 0, .int .i64 0, .int .i64 0, .int .i64 0, .int .i64 0, .int .i64 0, .int .i64 0] := by kernel_rfl
theorem BoxAt.oth {w : World} {N M n : Nat} {g : Nat → Fr} (h : BoxAt w N g n) (hne : M ≠ N) (vs : List Value) : BoxAt (w.setCells M 0 vs) N g n := by
  have far : ∀ (vs : List Value) (o : Nat) (w : World) (p : Nat), (w.setCells M o vs).cell? ⟨N, p, none⟩ = w.cell? ⟨N, p, none⟩ := by
    intro vs
    induction vs with
    | nil => intro o w p; rfl
    | cons v vs ih => intro o w p; exact (ih (o + 1) _ p).trans (World.cell?_setCell_far _ _ _ _ hne)
  intro k hk
  rw [far, far, far]; exact h k hk
theorem boxN' {W : World} {X : Nat} {f : Fr} {t : TypeId} (h : W.heap.size = X) : BoxAt (W.alloc (.cells #[.int .i64 f.re, .int .i64 f.im, .int .i64 f.den] t)) X (fun _ => f) 1 :=
  BoxAt.new' h (fun k hk => by
    obtain rfl : k = 0 := by omega
    exact ⟨rfl, rfl, rfl⟩)
/-- Where the program's loop stands. -/
structure DTRel (W : World) (A B R O : Nat) (f r : Fr) (g : Nat → Fr) (k : Nat) (wr : World) : Prop where
  le : k ≤ 16
  below : Below W.heap.size W wr
  hA : A < wr.heap.size
  nA : A ≠ O
  nB : B ≠ O
  nR : R ≠ O
  wR : W.heap.size ≤ R
  wO : W.heap.size ≤ O
  hO : O < wr.heap.size
  one : BoxAt wr A (fun _ => f) 1
  two : BoxAt wr B (fun _ => r) 1
  res : Room wr R 16
  room : Room wr O 16
  out : BoxAt wr O g k
theorem DTRel.put {W wr : World} {A B R O : Nat} {f r : Fr} {g : Nat → Fr} {k : Nat} (h : DTRel W A B R O f r g k wr) (hk : k < 16) (x : Fr) (e : g k = x) : DTRel W A B R O f r g (k + 1) (putF wr O k x) :=
  ⟨hk, ((h.below.setCell h.wO _).setCell h.wO _).setCell h.wO _, by rw [putF_size]; exact h.hA, h.nA, h.nB, h.nR, h.wR, h.wO, by rw [putF_size]; exact h.hO, h.one.put_other (fun e => h.nA e.symm) k x, h.two.put_other (fun e => h.nB e.symm) k x, h.res.put _ _ _, h.room.put _ _ _, h.out.more h.room hk x e⟩
theorem DTRel.beyond {W wr : World} {A B R O : Nat} {f r : Fr} {g : Nat → Fr} {k : Nat} (h : DTRel W A B R O f r g k wr) (x : Fr) : DTRel W A B R O f r g k (putF wr O k x) :=
  ⟨h.le, ((h.below.setCell h.wO _).setCell h.wO _).setCell h.wO _, by rw [putF_size]; exact h.hA, h.nA, h.nB, h.nR, h.wR, h.wO, by rw [putF_size]; exact h.hO, h.one.put_other (fun e => h.nA e.symm) k x, h.two.put_other (fun e => h.nB e.symm) k x, h.res.put _ _ _, h.room.put _ _ _, h.out.beyond x⟩
theorem DTRel.upd {W wr : World} {A B R O : Nat} {f r : Fr} {g : Nat → Fr} (h : DTRel W A B R O f r g 16 wr) {k : Nat} (hk : k < 16) (x : Fr) : DTRel W A B R O f r (fun j => if j = k then x else g j) 16 (putF wr O k x) :=
  ⟨h.le, ((h.below.setCell h.wO _).setCell h.wO _).setCell h.wO _, by rw [putF_size]; exact h.hA, h.nA, h.nB, h.nR, h.wR, h.wO, by rw [putF_size]; exact h.hO, h.one.put_other (fun e => h.nA e.symm) k x, h.two.put_other (fun e => h.nB e.symm) k x, h.res.put _ _ _, h.room.put _ _ _, h.out.upd h.room hk x⟩
theorem DTRel.drew {W wr : World} {A B R O : Nat} {f r : Fr} {g : Nat → Fr} {k : Nat} (h : DTRel W A B R O f r g k wr) : DTRel W A B R O f r g k wr.drew := ⟨h.le, h.below.drew, h.hA, h.nA, h.nB, h.nR, h.wR, h.wO, h.hO, h.one, h.two, h.res, h.room, h.out⟩
def DTR (W : World) (A B R O : Nat) (f r : Fr) (g : Nat → Fr) (i : Value) (wr : World) : Prop := ∃ k : Nat, i = .int .i64 k ∧ DTRel W A B R O f r g k wr
set_option maxRecDepth 100000 in
set_option maxHeartbeats 8000000 in
theorem idiag_any (f r : Fr) (w : World) (hg_zero : Gat w 1 (ixF f0) 1) :
    Calls Tryd.prog 64 #[.agg #[.int .i64 f.re, .int .i64 f.im, .int .i64 f.den], .agg #[.int .i64 r.re, .int .i64 r.im, .int .i64 r.den]] w fun e w' => e = .returned (.agg (cl (m16 f r).get 16).toArray) ∧ Below w.heap.size w w' := by
  have HG := Lib.hid hg_zero; clear hg_zero
  have hth : ((((w.alloc (.cells #[.int .i64 f.re, .int .i64 f.im, .int .i64 f.den] 23)).alloc (.cells #[.int .i64 r.re, .int .i64 r.im, .int .i64 r.den] 23)).alloc (.cells #[.int .i64 0, .int .i64 0, .int .i64 0, .int .i64 0, .int .i64 0, .int .i64 0, .int .i64 0, .int .i64 0, .int .i64 0, .int .i64 0, .int .i64 0, .int .i64 0, .int .i64 0, .int .i64 0, .int .i64 0, .int .i64 0, .int .i64 0, .int .i64 0, .int .i64 0, .int .i64 0, .int .i64 0, .int .i64 0, .int .i64 0, .int .i64 0, .int .i64 0, .int .i64 0, .int .i64 0, .int .i64 0, .int .i64 0, .int .i64 0, .int .i64 0, .int .i64 0, .int .i64 0, .int .i64 0, .int .i64 0, .int .i64 0, .int .i64 0, .int .i64 0, .int .i64 0, .int .i64 0, .int .i64 0, .int .i64 0, .int .i64 0, .int .i64 0, .int .i64 0, .int .i64 0, .int .i64 0, .int .i64 0] 26)).alloc (.cells #[.int .i64 0, .int .i64 0, .int .i64 0, .int .i64 0, .int .i64 0, .int .i64 0, .int .i64 0, .int .i64 0, .int .i64 0, .int .i64 0, .int .i64 0, .int .i64 0, .int .i64 0, .int .i64 0, .int .i64 0, .int .i64 0, .int .i64 0, .int .i64 0, .int .i64 0, .int .i64 0, .int .i64 0, .int .i64 0, .int .i64 0, .int .i64 0, .int .i64 0, .int .i64 0, .int .i64 0, .int .i64 0, .int .i64 0, .int .i64 0, .int .i64 0, .int .i64 0, .int .i64 0, .int .i64 0, .int .i64 0, .int .i64 0, .int .i64 0, .int .i64 0, .int .i64 0, .int .i64 0, .int .i64 0, .int .i64 0, .int .i64 0, .int .i64 0, .int .i64 0, .int .i64 0, .int .i64 0, .int .i64 0] 26)).there (w.heap.size + 1 + 1 + 1) 0 48 := (Room.new' (n := 16) (by simp) rfl).there
  have HT0 : Hid (DTRel w (w.heap.size) (w.heap.size + 1) (w.heap.size + 1 + 1) (w.heap.size + 1 + 1 + 1) f r (fun _ => f0) 0 (((((w.alloc (.cells #[.int .i64 f.re, .int .i64 f.im, .int .i64 f.den] 23)).alloc (.cells #[.int .i64 r.re, .int .i64 r.im, .int .i64 r.den] 23)).alloc (.cells #[.int .i64 0, .int .i64 0, .int .i64 0, .int .i64 0, .int .i64 0, .int .i64 0, .int .i64 0, .int .i64 0, .int .i64 0, .int .i64 0, .int .i64 0, .int .i64 0, .int .i64 0, .int .i64 0, .int .i64 0, .int .i64 0, .int .i64 0, .int .i64 0, .int .i64 0, .int .i64 0, .int .i64 0, .int .i64 0, .int .i64 0, .int .i64 0, .int .i64 0, .int .i64 0, .int .i64 0, .int .i64 0, .int .i64 0, .int .i64 0, .int .i64 0, .int .i64 0, .int .i64 0, .int .i64 0, .int .i64 0, .int .i64 0, .int .i64 0, .int .i64 0, .int .i64 0, .int .i64 0, .int .i64 0, .int .i64 0, .int .i64 0, .int .i64 0, .int .i64 0, .int .i64 0, .int .i64 0, .int .i64 0] 26)).alloc (.cells #[.int .i64 0, .int .i64 0, .int .i64 0, .int .i64 0, .int .i64 0, .int .i64 0, .int .i64 0, .int .i64 0, .int .i64 0, .int .i64 0, .int .i64 0, .int .i64 0, .int .i64 0, .int .i64 0, .int .i64 0, .int .i64 0, .int .i64 0, .int .i64 0, .int .i64 0, .int .i64 0, .int .i64 0, .int .i64 0, .int .i64 0, .int .i64 0, .int .i64 0, .int .i64 0, .int .i64 0, .int .i64 0, .int .i64 0, .int .i64 0, .int .i64 0, .int .i64 0, .int .i64 0, .int .i64 0, .int .i64 0, .int .i64 0, .int .i64 0, .int .i64 0, .int .i64 0, .int .i64 0, .int .i64 0, .int .i64 0, .int .i64 0, .int .i64 0, .int .i64 0, .int .i64 0, .int .i64 0, .int .i64 0] 26)).setCells (w.heap.size + 1 + 1 + 1) 0 [.int .i64 0, .int .i64 0, .int .i64 0, .int .i64 0, .int .i64 0, .int .i64 0, .int .i64 0, .int .i64 0, .int .i64 0, .int .i64 0, .int .i64 0, .int .i64 0, .int .i64 0, .int .i64 0, .int .i64 0, .int .i64 0, .int .i64 0, .int .i64 0, .int .i64 0, .int .i64 0, .int .i64 0, .int .i64 0, .int .i64 0, .int .i64 0, .int .i64 0, .int .i64 0, .int .i64 0, .int .i64 0, .int .i64 0, .int .i64 0, .int .i64 0, .int .i64 0, .int .i64 0, .int .i64 0, .int .i64 0, .int .i64 0, .int .i64 0, .int .i64 0, .int .i64 0, .int .i64 0, .int .i64 0, .int .i64 0, .int .i64 0, .int .i64 0, .int .i64 0, .int .i64 0, .int .i64 0, .int .i64 0])) := by
    show DTRel _ _ _ _ _ _ _ _ _ _
    refine ⟨by omega, setCells_below _ _ _ (by (repeat' first | exact Below.refl _ _ | apply bl_alloc | apply bl_drewN | apply bl_drew | refine bl_trans ?_ (by assumption) | refine bl_set ?_ (by first | omega | (simp <;> omega)) _)) (by omega), by rw [setCells_size2]; simp, by omega, by omega, by omega, by omega, by omega, by rw [setCells_size2]; simp, BoxAt.oth ?_ (by omega) _, BoxAt.oth ?_ (by omega) _, Room.setsF _ _ _ ?_, Room.setsF _ _ _ ?_, fun k hk => absurd hk (by omega)⟩
    · exact (((boxN' rfl).alloc (by simp) _).alloc (by simp) _).alloc (by simp) _
    · exact ((boxN' (by simp)).alloc (by simp) _).alloc (by simp) _
    · exact (Room.new' (by simp) rfl).alloc (by simp) _
    · exact Room.new' (by simp) rfl
  go_enter Tryd.func64, Tryd.ntmps64
  go_wp2_with (first | ((with_reducible refine wpList_store_mid ?ka1 26 ?kax ?kay ?ka2 (w.heap.size + 1 + 1 + 1) 0 #[.int .i64 0, .int .i64 0, .int .i64 0, .int .i64 0, .int .i64 0, .int .i64 0, .int .i64 0, .int .i64 0, .int .i64 0, .int .i64 0, .int .i64 0, .int .i64 0, .int .i64 0, .int .i64 0, .int .i64 0, .int .i64 0, .int .i64 0, .int .i64 0, .int .i64 0, .int .i64 0, .int .i64 0, .int .i64 0, .int .i64 0, .int .i64 0, .int .i64 0, .int .i64 0, .int .i64 0, .int .i64 0, .int .i64 0, .int .i64 0, .int .i64 0, .int .i64 0, .int .i64 0, .int .i64 0, .int .i64 0, .int .i64 0, .int .i64 0, .int .i64 0, .int .i64 0, .int .i64 0, .int .i64 0, .int .i64 0, .int .i64 0, .int .i64 0, .int .i64 0, .int .i64 0, .int .i64 0, .int .i64 0] ?ka3 ?ka4 ?ka5 ?ka6 ?ka7 ?ka8); (case ka2 => rfl); (case ka1 => rfl); (case ka3 => rfl); (case ka4 => rfl); (case ka5 => exact hth); (case ka6 => kernel_rfl); (case ka7 => exact (by simp [Value.oneCell']))))
  obtain ⟨V, hV⟩ : ∃ V, V = (((((w.alloc (.cells #[.int .i64 f.re, .int .i64 f.im, .int .i64 f.den] 23)).alloc (.cells #[.int .i64 r.re, .int .i64 r.im, .int .i64 r.den] 23)).alloc (.cells #[.int .i64 0, .int .i64 0, .int .i64 0, .int .i64 0, .int .i64 0, .int .i64 0, .int .i64 0, .int .i64 0, .int .i64 0, .int .i64 0, .int .i64 0, .int .i64 0, .int .i64 0, .int .i64 0, .int .i64 0, .int .i64 0, .int .i64 0, .int .i64 0, .int .i64 0, .int .i64 0, .int .i64 0, .int .i64 0, .int .i64 0, .int .i64 0, .int .i64 0, .int .i64 0, .int .i64 0, .int .i64 0, .int .i64 0, .int .i64 0, .int .i64 0, .int .i64 0, .int .i64 0, .int .i64 0, .int .i64 0, .int .i64 0, .int .i64 0, .int .i64 0, .int .i64 0, .int .i64 0, .int .i64 0, .int .i64 0, .int .i64 0, .int .i64 0, .int .i64 0, .int .i64 0, .int .i64 0, .int .i64 0] 26)).alloc (.cells #[.int .i64 0, .int .i64 0, .int .i64 0, .int .i64 0, .int .i64 0, .int .i64 0, .int .i64 0, .int .i64 0, .int .i64 0, .int .i64 0, .int .i64 0, .int .i64 0, .int .i64 0, .int .i64 0, .int .i64 0, .int .i64 0, .int .i64 0, .int .i64 0, .int .i64 0, .int .i64 0, .int .i64 0, .int .i64 0, .int .i64 0, .int .i64 0, .int .i64 0, .int .i64 0, .int .i64 0, .int .i64 0, .int .i64 0, .int .i64 0, .int .i64 0, .int .i64 0, .int .i64 0, .int .i64 0, .int .i64 0, .int .i64 0, .int .i64 0, .int .i64 0, .int .i64 0, .int .i64 0, .int .i64 0, .int .i64 0, .int .i64 0, .int .i64 0, .int .i64 0, .int .i64 0, .int .i64 0, .int .i64 0] 26)).setCells (w.heap.size + 1 + 1 + 1) 0 [.int .i64 0, .int .i64 0, .int .i64 0, .int .i64 0, .int .i64 0, .int .i64 0, .int .i64 0, .int .i64 0, .int .i64 0, .int .i64 0, .int .i64 0, .int .i64 0, .int .i64 0, .int .i64 0, .int .i64 0, .int .i64 0, .int .i64 0, .int .i64 0, .int .i64 0, .int .i64 0, .int .i64 0, .int .i64 0, .int .i64 0, .int .i64 0, .int .i64 0, .int .i64 0, .int .i64 0, .int .i64 0, .int .i64 0, .int .i64 0, .int .i64 0, .int .i64 0, .int .i64 0, .int .i64 0, .int .i64 0, .int .i64 0, .int .i64 0, .int .i64 0, .int .i64 0, .int .i64 0, .int .i64 0, .int .i64 0, .int .i64 0, .int .i64 0, .int .i64 0, .int .i64 0, .int .i64 0, .int .i64 0]) := ⟨_, rfl⟩
  rw [← hV] at HT0
  (try rw [← hV])
  clear hV hth
  go_loopw [8] (fun i wr => DTR w (w.heap.size) (w.heap.size + 1) (w.heap.size + 1 + 1) (w.heap.size + 1 + 1 + 1) f r (fun _ => f0) i wr) (fun i _ => (16 - intOf i).toNat)
  case atStart => exact ⟨0, rfl, HT0.out⟩
  case round =>
    clear HT0
    obtain ⟨k, rfl, hT⟩ := hrel
    have hgz := HG.out.below hT.below
    obtain ⟨z0, z1, z2⟩ := hgz.box 0 (by omega)
    have hgl := hgz.lt
    have ng : ¬ 1 = w.heap.size + 1 + 1 + 1 := by have := HG.out.lt; omega
    have ng2 : ¬ w.heap.size + 1 + 1 + 1 = 1 := fun h => ng h.symm
    clear hgz
    have i0 : (0 : Int) ≤ (k : Int) := by omega
    by_cases h4 : k < 16
    · have i1 : (k : Int) < 16 := by omega
      obtain ⟨v0, e0⟩ := Option.isSome_iff_exists.1 (hT.room (k * 3) (by omega)).1
      have fq0 := (hT.room (k * 3) (by omega)).2
      obtain ⟨v1, e1⟩ := Option.isSome_iff_exists.1 (hT.room (k * 3 + 1) (by omega)).1
      have fq1 := (hT.room (k * 3 + 1) (by omega)).2
      obtain ⟨v2, e2⟩ := Option.isSome_iff_exists.1 (hT.room (k * 3 + 2) (by omega)).1
      have fq2 := (hT.room (k * 3 + 2) (by omega)).2
      have HT := Lib.hid (hT.put h4 f0 rfl)
      clear hT
      go_wp2
      go_roundw
      case rel => exact ⟨k + 1, by go_num, HT.out⟩
      case measure => simp [intOf]; omega
    · obtain rfl : k = 16 := by have := hT.le; omega
      have HT := Lib.hid hT.drew
      have HR := Lib.hid ((((hT.upd (k := 0) (by omega) f).upd (k := 5) (by omega) r).upd (k := 10) (by omega) r).upd (k := 15) (by omega) r).drew
      have H3 := Lib.hid (HR.out.out.congr (h := (m16 f r).get) (fun k hk => diag_i f r hk))
      have hOA := hT.nA
      have hOB := hT.nB
      have hOl := hT.hO
      obtain ⟨b0, b1, b2⟩ := hT.one 0 (by omega)
      obtain ⟨c0, c1, c2⟩ := hT.two 0 (by omega)
      obtain ⟨v0, e0⟩ := Option.isSome_iff_exists.1 (hT.room 0 (by omega)).1
      have fq0 := (hT.room 0 (by omega)).2
      obtain ⟨v1, e1⟩ := Option.isSome_iff_exists.1 (hT.room 1 (by omega)).1
      have fq1 := (hT.room 1 (by omega)).2
      obtain ⟨v2, e2⟩ := Option.isSome_iff_exists.1 (hT.room 2 (by omega)).1
      have fq2 := (hT.room 2 (by omega)).2
      obtain ⟨v15, e15⟩ := Option.isSome_iff_exists.1 (hT.room 15 (by omega)).1
      have fq15 := (hT.room 15 (by omega)).2
      obtain ⟨v16, e16⟩ := Option.isSome_iff_exists.1 (hT.room 16 (by omega)).1
      have fq16 := (hT.room 16 (by omega)).2
      obtain ⟨v17, e17⟩ := Option.isSome_iff_exists.1 (hT.room 17 (by omega)).1
      have fq17 := (hT.room 17 (by omega)).2
      obtain ⟨v30, e30⟩ := Option.isSome_iff_exists.1 (hT.room 30 (by omega)).1
      have fq30 := (hT.room 30 (by omega)).2
      obtain ⟨v31, e31⟩ := Option.isSome_iff_exists.1 (hT.room 31 (by omega)).1
      have fq31 := (hT.room 31 (by omega)).2
      obtain ⟨v32, e32⟩ := Option.isSome_iff_exists.1 (hT.room 32 (by omega)).1
      have fq32 := (hT.room 32 (by omega)).2
      obtain ⟨v45, e45⟩ := Option.isSome_iff_exists.1 (hT.room 45 (by omega)).1
      have fq45 := (hT.room 45 (by omega)).2
      obtain ⟨v46, e46⟩ := Option.isSome_iff_exists.1 (hT.room 46 (by omega)).1
      have fq46 := (hT.room 46 (by omega)).2
      obtain ⟨v47, e47⟩ := Option.isSome_iff_exists.1 (hT.room 47 (by omega)).1
      have fq47 := (hT.room 47 (by omega)).2
      clear hT
      have b0 : wr.cell? ⟨w.heap.size, 0, none⟩ = _ := b0
      have b1 : wr.cell? ⟨w.heap.size, 1, none⟩ = _ := b1
      have b2 : wr.cell? ⟨w.heap.size, 2, none⟩ = _ := b2
      have c0 : wr.cell? ⟨w.heap.size + 1, 0, none⟩ = _ := c0
      have c1 : wr.cell? ⟨w.heap.size + 1, 1, none⟩ = _ := c1
      have c2 : wr.cell? ⟨w.heap.size + 1, 2, none⟩ = _ := c2
      clear i0 z0 z1 z2 hgl ng ng2
      go_wp2
      go_region_held3 (fun w' => (w'.cell? ⟨w.heap.size, 0, none⟩ = some (.int .i64 f.re) ∧ w'.cell? ⟨w.heap.size, 1, none⟩ = some (.int .i64 f.im) ∧ w'.cell? ⟨w.heap.size, 2, none⟩ = some (.int .i64 f.den)) ∧ w'.cell? ⟨w.heap.size + 1, 0, none⟩ = some (.int .i64 r.re) ∧ w'.cell? ⟨w.heap.size + 1, 1, none⟩ = some (.int .i64 r.im) ∧ w'.cell? ⟨w.heap.size + 1, 2, none⟩ = some (.int .i64 r.den)) (((try dsimp only); (refine ⟨⟨?_, ?_, ?_⟩, ?_, ?_, ?_⟩ <;> ((repeat first | (with_reducible refine (cell_dr _ _).trans ?_) | (with_reducible refine (World.cell?_setCell_far _ _ _ _ (ne3 _)).trans ?_) | (with_reducible refine (World.cell?_setCell_far _ _ _ _ (ne2 _)).trans ?_)); with_reducible assumption)))) (first | fail)
      go_wp2_with (first
        | ((with_reducible refine wpList_load_mid ?kb1 26 ?kbx ?kb2 (w.heap.size + 1 + 1 + 1) 0 ?kb3 (cl (m16 f r).get 16) ?kbd ?kb4 ?kb5 ?kb6 ?kb7 ?kb8); (case kb2 => rfl); (case kb1 => rfl); (case kb3 => rfl); (case kb4 => exact (H3.out.range)); (case kb5 => exact Tryd.underlying26); (case kb6 => rfl); (case kb7 => kernel_rfl))
        | ((with_reducible refine wpList_store_mid ?kc1 26 ?kcx ?kcy ?kc2 (w.heap.size + 1 + 1) 0 (cl (m16 f r).get 16).toArray ?kc3 ?kc4 ?kc5 ?kc6 ?kc7 ?kc8); (case kc2 => rfl); (case kc1 => rfl); (case kc3 => rfl); (case kc4 => rfl); (case kc5 => exact (HR.out.res.thereC (m16 f r).get)); (case kc6 => kernel_rfl); (case kc7 => exact (cl_one _ _))))
      refine bodyPost_ret (v := .agg (cl (m16 f r).get 16).toArray) (results_cell_mid rfl _ _ (w.heap.size + 1 + 1) (cl (m16 f r).get 16) _ (by rfl) (World.rangeAt_setCells_same _ _ _ _ (HR.out.res.thereC (m16 f r).get)) Tryd.underlying26 rfl (by kernel_rfl)) rfl ⟨rfl, ?_⟩
      exact setCells_below _ _ _ HR.out.below (by omega)
theorem cl_at (g : Nat → Fr) {k : Nat} : ∀ {n : Nat}, k < n → (cl g n)[k * 3]? = some (.int .i64 (g k).re) ∧ (cl g n)[k * 3 + 1]? = some (.int .i64 (g k).im) ∧ (cl g n)[k * 3 + 2]? = some (.int .i64 (g k).den)
  | 0, h => absurd h (by omega)
  | n + 1, h => by
    have hl := cl_len g n
    show (cl g n ++ ([.int .i64 (g n).re, .int .i64 (g n).im, .int .i64 (g n).den] : List Value))[k * 3]? = _ ∧ (cl g n ++ ([.int .i64 (g n).re, .int .i64 (g n).im, .int .i64 (g n).den] : List Value))[k * 3 + 1]? = _ ∧ (cl g n ++ ([.int .i64 (g n).re, .int .i64 (g n).im, .int .i64 (g n).den] : List Value))[k * 3 + 2]? = _
    by_cases e : k = n
    · subst e
      rw [List.getElem?_append_right (by omega), List.getElem?_append_right (by omega), List.getElem?_append_right (by omega), hl]
      rw [show k * 3 - k * 3 = 0 by omega, show k * 3 + 1 - k * 3 = 1 by omega, show k * 3 + 2 - k * 3 = 2 by omega]
      exact ⟨rfl, rfl, rfl⟩
    · rw [List.getElem?_append_left (by omega), List.getElem?_append_left (by omega), List.getElem?_append_left (by omega)]
      exact cl_at g (by omega)
theorem BoxAt.ofRange {w : World} {N n : Nat} {g : Nat → Fr} (h : w.rangeAt N 0 (cl g n)) : BoxAt w N g n := fun k hk => by
  obtain ⟨h1, h2, h3⟩ := cl_at g hk
  have e1 := h _ _ h1
  have e2 := h _ _ h2
  have e3 := h _ _ h3
  rw [Nat.zero_add] at e1 e2 e3
  exact ⟨e1, e2, e3⟩
theorem BoxAt.setRe0 {w : World} {N n : Nat} {g : Nat → Fr} (h : BoxAt w N g n) (r : Room w N n) (hn : 0 < n) (x : Int) : BoxAt (w.setCell ⟨N, 0, none⟩ (.int .i64 x)) N (fun j => if j = 0 then ⟨x, (g 0).im, (g 0).den⟩ else g j) n := fun k hk => by
  have oth : ∀ p, 0 ≠ p → (w.setCell ⟨N, 0, none⟩ (.int .i64 x)).cell? ⟨N, p, none⟩ = w.cell? ⟨N, p, none⟩ := fun p hp => World.cell?_setCell_other _ _ _ _ (ne_off hp)
  obtain ⟨h1, h2, h3⟩ := h k hk
  show World.cell? _ _ = some (.int .i64 (if k = 0 then (⟨x, (g 0).im, (g 0).den⟩ : Fr) else g k).re) ∧ World.cell? _ _ = some (.int .i64 (if k = 0 then (⟨x, (g 0).im, (g 0).den⟩ : Fr) else g k).im) ∧ World.cell? _ _ = some (.int .i64 (if k = 0 then (⟨x, (g 0).im, (g 0).den⟩ : Fr) else g k).den)
  by_cases e : k = 0
  · subst e
    rw [if_pos rfl]
    exact ⟨World.cell?_setCell_same' _ _ _ (r 0 (by omega)).1, (oth _ (by omega)).trans h2, (oth _ (by omega)).trans h3⟩
  · rw [if_neg e]
    exact ⟨(oth _ (by omega)).trans h1, (oth _ (by omega)).trans h2, (oth _ (by omega)).trans h3⟩
theorem diag_u (n : Int) {j : Nat} (h : j < 16) : (if j = 0 then (⟨n, ((m16 Pol.f1 ⟨n, 0, 1⟩).get 0).im, ((m16 Pol.f1 ⟨n, 0, 1⟩).get 0).den⟩ : Fr) else (m16 Pol.f1 ⟨n, 0, 1⟩).get j) = (m16 ⟨n, 0, 1⟩ ⟨n, 0, 1⟩).get j := by
  rcases cases16 h with rfl | rfl | rfl | rfl | rfl | rfl | rfl | rfl | rfl | rfl | rfl | rfl | rfl | rfl | rfl | rfl <;> rfl
/-- A table and a Bool. -/
def T16Out (g : M16 × Bool) (w : World) (e : Ending) (w' : World) : Prop := e = .returned (.tuple #[.agg (cl g.1.get 16).toArray, .bool g.2]) ∧ Below w.heap.size w w'
def gUnit (n : Int) : M16 × Bool := if wi n (-1000) 1000 = true then (m16 ⟨n, 0, 1⟩ ⟨n, 0, 1⟩, true) else (m16z, false)
theorem T16Out.no {g : M16 × Bool} (h : g = (m16z, false)) {w w' : World} (hb : Below w.heap.size w w') : T16Out g w (.returned (.tuple #[.agg (cl m16z.get 16).toArray, .bool false])) w' := ⟨by rw [h], hb⟩
theorem T16Out.yes {g : M16 × Bool} {m : M16} (h : g = (m, true)) {w w' : World} (hb : Below w.heap.size w w') : T16Out g w (.returned (.tuple #[.agg (cl m.get 16).toArray, .bool true])) w' := ⟨by rw [h], hb⟩
set_option maxRecDepth 100000 in
set_option maxHeartbeats 8000000 in
theorem sdiag_any (c : Fr) (w : World) :
    Calls Tryd.prog 62 #[.agg #[.int .i64 c.re, .int .i64 c.im, .int .i64 c.den]] w fun e w' => e = .returned (.agg (cl (m16 Pol.f1 c).get 16).toArray) ∧ Below w.heap.size w w' := by
  have hth : (((w.alloc (.cells #[.int .i64 c.re, .int .i64 c.im, .int .i64 c.den] 23)).alloc (.cells #[.int .i64 0, .int .i64 0, .int .i64 0, .int .i64 0, .int .i64 0, .int .i64 0, .int .i64 0, .int .i64 0, .int .i64 0, .int .i64 0, .int .i64 0, .int .i64 0, .int .i64 0, .int .i64 0, .int .i64 0, .int .i64 0, .int .i64 0, .int .i64 0, .int .i64 0, .int .i64 0, .int .i64 0, .int .i64 0, .int .i64 0, .int .i64 0, .int .i64 0, .int .i64 0, .int .i64 0, .int .i64 0, .int .i64 0, .int .i64 0, .int .i64 0, .int .i64 0, .int .i64 0, .int .i64 0, .int .i64 0, .int .i64 0, .int .i64 0, .int .i64 0, .int .i64 0, .int .i64 0, .int .i64 0, .int .i64 0, .int .i64 0, .int .i64 0, .int .i64 0, .int .i64 0, .int .i64 0, .int .i64 0] 26)).alloc (.cells #[.int .i64 0, .int .i64 0, .int .i64 0, .int .i64 0, .int .i64 0, .int .i64 0, .int .i64 0, .int .i64 0, .int .i64 0, .int .i64 0, .int .i64 0, .int .i64 0, .int .i64 0, .int .i64 0, .int .i64 0, .int .i64 0, .int .i64 0, .int .i64 0, .int .i64 0, .int .i64 0, .int .i64 0, .int .i64 0, .int .i64 0, .int .i64 0, .int .i64 0, .int .i64 0, .int .i64 0, .int .i64 0, .int .i64 0, .int .i64 0, .int .i64 0, .int .i64 0, .int .i64 0, .int .i64 0, .int .i64 0, .int .i64 0, .int .i64 0, .int .i64 0, .int .i64 0, .int .i64 0, .int .i64 0, .int .i64 0, .int .i64 0, .int .i64 0, .int .i64 0, .int .i64 0, .int .i64 0, .int .i64 0] 26)).there (w.heap.size + 1 + 1) 0 48 := (Room.new' (n := 16) (by simp) rfl).there
  have HT0 : Hid (DTRel w (w.heap.size) (w.heap.size) (w.heap.size + 1) (w.heap.size + 1 + 1) c c (fun k => if k % 5 = 0 then c else f0) 0 ((((w.alloc (.cells #[.int .i64 c.re, .int .i64 c.im, .int .i64 c.den] 23)).alloc (.cells #[.int .i64 0, .int .i64 0, .int .i64 0, .int .i64 0, .int .i64 0, .int .i64 0, .int .i64 0, .int .i64 0, .int .i64 0, .int .i64 0, .int .i64 0, .int .i64 0, .int .i64 0, .int .i64 0, .int .i64 0, .int .i64 0, .int .i64 0, .int .i64 0, .int .i64 0, .int .i64 0, .int .i64 0, .int .i64 0, .int .i64 0, .int .i64 0, .int .i64 0, .int .i64 0, .int .i64 0, .int .i64 0, .int .i64 0, .int .i64 0, .int .i64 0, .int .i64 0, .int .i64 0, .int .i64 0, .int .i64 0, .int .i64 0, .int .i64 0, .int .i64 0, .int .i64 0, .int .i64 0, .int .i64 0, .int .i64 0, .int .i64 0, .int .i64 0, .int .i64 0, .int .i64 0, .int .i64 0, .int .i64 0] 26)).alloc (.cells #[.int .i64 0, .int .i64 0, .int .i64 0, .int .i64 0, .int .i64 0, .int .i64 0, .int .i64 0, .int .i64 0, .int .i64 0, .int .i64 0, .int .i64 0, .int .i64 0, .int .i64 0, .int .i64 0, .int .i64 0, .int .i64 0, .int .i64 0, .int .i64 0, .int .i64 0, .int .i64 0, .int .i64 0, .int .i64 0, .int .i64 0, .int .i64 0, .int .i64 0, .int .i64 0, .int .i64 0, .int .i64 0, .int .i64 0, .int .i64 0, .int .i64 0, .int .i64 0, .int .i64 0, .int .i64 0, .int .i64 0, .int .i64 0, .int .i64 0, .int .i64 0, .int .i64 0, .int .i64 0, .int .i64 0, .int .i64 0, .int .i64 0, .int .i64 0, .int .i64 0, .int .i64 0, .int .i64 0, .int .i64 0] 26)).setCells (w.heap.size + 1 + 1) 0 [.int .i64 0, .int .i64 0, .int .i64 0, .int .i64 0, .int .i64 0, .int .i64 0, .int .i64 0, .int .i64 0, .int .i64 0, .int .i64 0, .int .i64 0, .int .i64 0, .int .i64 0, .int .i64 0, .int .i64 0, .int .i64 0, .int .i64 0, .int .i64 0, .int .i64 0, .int .i64 0, .int .i64 0, .int .i64 0, .int .i64 0, .int .i64 0, .int .i64 0, .int .i64 0, .int .i64 0, .int .i64 0, .int .i64 0, .int .i64 0, .int .i64 0, .int .i64 0, .int .i64 0, .int .i64 0, .int .i64 0, .int .i64 0, .int .i64 0, .int .i64 0, .int .i64 0, .int .i64 0, .int .i64 0, .int .i64 0, .int .i64 0, .int .i64 0, .int .i64 0, .int .i64 0, .int .i64 0, .int .i64 0])) := by
    show DTRel _ _ _ _ _ _ _ _ _ _
    refine ⟨by omega, setCells_below _ _ _ (by (repeat' first | exact Below.refl _ _ | apply bl_alloc | apply bl_drewN | apply bl_drew | refine bl_trans ?_ (by assumption) | refine bl_set ?_ (by first | omega | (simp <;> omega)) _)) (by omega), by rw [setCells_size2]; simp, by omega, by omega, by omega, by omega, by omega, by rw [setCells_size2]; simp, BoxAt.oth ?_ (by omega) _, BoxAt.oth ?_ (by omega) _, Room.setsF _ _ _ ?_, Room.setsF _ _ _ ?_, fun k hk => absurd hk (by omega)⟩
    · exact ((boxN' rfl).alloc (by simp) _).alloc (by simp) _
    · exact ((boxN' rfl).alloc (by simp) _).alloc (by simp) _
    · exact (Room.new' (by simp) rfl).alloc (by simp) _
    · exact Room.new' (by simp) rfl
  go_enter Tryd.func62, Tryd.ntmps62
  go_wp2_with (first | ((with_reducible refine wpList_store_mid ?kd1 26 ?kdx ?kdy ?kd2 (w.heap.size + 1 + 1) 0 #[.int .i64 0, .int .i64 0, .int .i64 0, .int .i64 0, .int .i64 0, .int .i64 0, .int .i64 0, .int .i64 0, .int .i64 0, .int .i64 0, .int .i64 0, .int .i64 0, .int .i64 0, .int .i64 0, .int .i64 0, .int .i64 0, .int .i64 0, .int .i64 0, .int .i64 0, .int .i64 0, .int .i64 0, .int .i64 0, .int .i64 0, .int .i64 0, .int .i64 0, .int .i64 0, .int .i64 0, .int .i64 0, .int .i64 0, .int .i64 0, .int .i64 0, .int .i64 0, .int .i64 0, .int .i64 0, .int .i64 0, .int .i64 0, .int .i64 0, .int .i64 0, .int .i64 0, .int .i64 0, .int .i64 0, .int .i64 0, .int .i64 0, .int .i64 0, .int .i64 0, .int .i64 0, .int .i64 0, .int .i64 0] ?kd3 ?kd4 ?kd5 ?kd6 ?kd7 ?kd8); (case kd2 => rfl); (case kd1 => rfl); (case kd3 => rfl); (case kd4 => rfl); (case kd5 => exact hth); (case kd6 => kernel_rfl); (case kd7 => exact (by simp [Value.oneCell']))))
  obtain ⟨V, hV⟩ : ∃ V, V = ((((w.alloc (.cells #[.int .i64 c.re, .int .i64 c.im, .int .i64 c.den] 23)).alloc (.cells #[.int .i64 0, .int .i64 0, .int .i64 0, .int .i64 0, .int .i64 0, .int .i64 0, .int .i64 0, .int .i64 0, .int .i64 0, .int .i64 0, .int .i64 0, .int .i64 0, .int .i64 0, .int .i64 0, .int .i64 0, .int .i64 0, .int .i64 0, .int .i64 0, .int .i64 0, .int .i64 0, .int .i64 0, .int .i64 0, .int .i64 0, .int .i64 0, .int .i64 0, .int .i64 0, .int .i64 0, .int .i64 0, .int .i64 0, .int .i64 0, .int .i64 0, .int .i64 0, .int .i64 0, .int .i64 0, .int .i64 0, .int .i64 0, .int .i64 0, .int .i64 0, .int .i64 0, .int .i64 0, .int .i64 0, .int .i64 0, .int .i64 0, .int .i64 0, .int .i64 0, .int .i64 0, .int .i64 0, .int .i64 0] 26)).alloc (.cells #[.int .i64 0, .int .i64 0, .int .i64 0, .int .i64 0, .int .i64 0, .int .i64 0, .int .i64 0, .int .i64 0, .int .i64 0, .int .i64 0, .int .i64 0, .int .i64 0, .int .i64 0, .int .i64 0, .int .i64 0, .int .i64 0, .int .i64 0, .int .i64 0, .int .i64 0, .int .i64 0, .int .i64 0, .int .i64 0, .int .i64 0, .int .i64 0, .int .i64 0, .int .i64 0, .int .i64 0, .int .i64 0, .int .i64 0, .int .i64 0, .int .i64 0, .int .i64 0, .int .i64 0, .int .i64 0, .int .i64 0, .int .i64 0, .int .i64 0, .int .i64 0, .int .i64 0, .int .i64 0, .int .i64 0, .int .i64 0, .int .i64 0, .int .i64 0, .int .i64 0, .int .i64 0, .int .i64 0, .int .i64 0] 26)).setCells (w.heap.size + 1 + 1) 0 [.int .i64 0, .int .i64 0, .int .i64 0, .int .i64 0, .int .i64 0, .int .i64 0, .int .i64 0, .int .i64 0, .int .i64 0, .int .i64 0, .int .i64 0, .int .i64 0, .int .i64 0, .int .i64 0, .int .i64 0, .int .i64 0, .int .i64 0, .int .i64 0, .int .i64 0, .int .i64 0, .int .i64 0, .int .i64 0, .int .i64 0, .int .i64 0, .int .i64 0, .int .i64 0, .int .i64 0, .int .i64 0, .int .i64 0, .int .i64 0, .int .i64 0, .int .i64 0, .int .i64 0, .int .i64 0, .int .i64 0, .int .i64 0, .int .i64 0, .int .i64 0, .int .i64 0, .int .i64 0, .int .i64 0, .int .i64 0, .int .i64 0, .int .i64 0, .int .i64 0, .int .i64 0, .int .i64 0, .int .i64 0]) := ⟨_, rfl⟩
  rw [← hV] at HT0
  (try rw [← hV])
  clear hV hth
  go_loopw [4] (fun i wr => DTR w (w.heap.size) (w.heap.size) (w.heap.size + 1) (w.heap.size + 1 + 1) c c (fun k => if k % 5 = 0 then c else f0) i wr) (fun i _ => (16 - intOf i).toNat)
  case atStart => exact ⟨0, rfl, HT0.out⟩
  case round =>
    clear HT0
    obtain ⟨k, rfl, hT⟩ := hrel
    have i0 : (0 : Int) ≤ (k : Int) := by omega
    by_cases h4 : k < 16
    · have i1 : (k : Int) < 16 := by omega
      obtain ⟨v0, e0⟩ := Option.isSome_iff_exists.1 (hT.room (k * 3) (by omega)).1
      have fq0 := (hT.room (k * 3) (by omega)).2
      obtain ⟨v1, e1⟩ := Option.isSome_iff_exists.1 (hT.room (k * 3 + 1) (by omega)).1
      have fq1 := (hT.room (k * 3 + 1) (by omega)).2
      obtain ⟨v2, e2⟩ := Option.isSome_iff_exists.1 (hT.room (k * 3 + 2) (by omega)).1
      have fq2 := (hT.room (k * 3 + 2) (by omega)).2
      obtain ⟨b0, b1, b2⟩ : wr.cell? ⟨w.heap.size, 0, none⟩ = some (.int .i64 c.re) ∧ wr.cell? ⟨w.heap.size, 1, none⟩ = some (.int .i64 c.im) ∧ wr.cell? ⟨w.heap.size, 2, none⟩ = some (.int .i64 c.den) := hT.one 0 (by omega)
      have ng : ¬ w.heap.size = w.heap.size + 1 + 1 := by omega
      have ng2 : ¬ w.heap.size + 1 + 1 = w.heap.size := by omega
      by_cases hm : k % 5 = 0
      · have hm2 : ((k : Int).tmod 5 == 0) = true := by
          rw [Int.tmod_eq_emod_of_nonneg i0]; simp; omega
        have HT := Lib.hid ((hT.beyond f0).put h4 c (by show (if k % 5 = 0 then c else f0) = c; rw [if_pos hm]))
        clear hT
        go_wp2
        go_roundw
        case rel => exact ⟨k + 1, by go_num, HT.out⟩
        case measure => simp [intOf]; omega
      · have hm2 : ((k : Int).tmod 5 == 0) = false := by
          rw [Int.tmod_eq_emod_of_nonneg i0]; simp; omega
        have HT := Lib.hid (hT.put h4 f0 (by show (if k % 5 = 0 then c else f0) = f0; rw [if_neg hm]))
        clear hT
        go_wp2
        go_roundw
        case rel => exact ⟨k + 1, by go_num, HT.out⟩
        case measure => simp [intOf]; omega
    · obtain rfl : k = 16 := by have := hT.le; omega
      have HR := Lib.hid (hT.upd (k := 0) (by omega) Pol.f1)
      have H3 := Lib.hid (HR.out.out.congr (h := (m16 Pol.f1 c).get) (fun k hk => diag_s Pol.f1 c hk))
      have hOl := hT.hO
      obtain ⟨v0, e0⟩ := Option.isSome_iff_exists.1 (hT.room 0 (by omega)).1
      have fq0 := (hT.room 0 (by omega)).2
      obtain ⟨v1, e1⟩ := Option.isSome_iff_exists.1 (hT.room 1 (by omega)).1
      have fq1 := (hT.room 1 (by omega)).2
      obtain ⟨v2, e2⟩ := Option.isSome_iff_exists.1 (hT.room 2 (by omega)).1
      have fq2 := (hT.room 2 (by omega)).2
      clear hT i0
      go_wp2_with (first
        | ((with_reducible refine wpList_load_mid ?ke1 26 ?kex ?ke2 (w.heap.size + 1 + 1) 0 ?ke3 (cl (m16 Pol.f1 c).get 16) ?ked ?ke4 ?ke5 ?ke6 ?ke7 ?ke8); (case ke2 => rfl); (case ke1 => rfl); (case ke3 => rfl); (case ke4 => exact (H3.out.range)); (case ke5 => exact Tryd.underlying26); (case ke6 => rfl); (case ke7 => kernel_rfl))
        | ((with_reducible refine wpList_store_mid ?kf1 26 ?kfx ?kfy ?kf2 (w.heap.size + 1) 0 (cl (m16 Pol.f1 c).get 16).toArray ?kf3 ?kf4 ?kf5 ?kf6 ?kf7 ?kf8); (case kf2 => rfl); (case kf1 => rfl); (case kf3 => rfl); (case kf4 => rfl); (case kf5 => exact (HR.out.res.thereC (m16 Pol.f1 c).get)); (case kf6 => kernel_rfl); (case kf7 => exact (cl_one _ _))))
      refine bodyPost_ret (v := .agg (cl (m16 Pol.f1 c).get 16).toArray) (results_cell_mid rfl _ _ (w.heap.size + 1) (cl (m16 Pol.f1 c).get 16) _ (by rfl) (World.rangeAt_setCells_same _ _ _ _ (HR.out.res.thereC (m16 Pol.f1 c).get)) Tryd.underlying26 rfl (by kernel_rfl)) rfl ⟨rfl, ?_⟩
      exact setCells_below _ _ _ HR.out.below (by omega)
set_option maxRecDepth 100000 in
set_option maxHeartbeats 8000000 in
theorem stunit_any (n : Int) (w : World) : Calls Tryd.prog 15 #[.int .i64 n] w (T16Out (gUnit n) w) := by
  have hR0 := Room.new' (w := w) (N := w.heap.size) (n := 16) (cs := #[.int .i64 0, .int .i64 0, .int .i64 0, .int .i64 0, .int .i64 0, .int .i64 0, .int .i64 0, .int .i64 0, .int .i64 0, .int .i64 0, .int .i64 0, .int .i64 0, .int .i64 0, .int .i64 0, .int .i64 0, .int .i64 0, .int .i64 0, .int .i64 0, .int .i64 0, .int .i64 0, .int .i64 0, .int .i64 0, .int .i64 0, .int .i64 0, .int .i64 0, .int .i64 0, .int .i64 0, .int .i64 0, .int .i64 0, .int .i64 0, .int .i64 0, .int .i64 0, .int .i64 0, .int .i64 0, .int .i64 0, .int .i64 0, .int .i64 0, .int .i64 0, .int .i64 0, .int .i64 0, .int .i64 0, .int .i64 0, .int .i64 0, .int .i64 0, .int .i64 0, .int .i64 0, .int .i64 0, .int .i64 0]) (t := 26) rfl rfl
  have HR0 := Lib.hid hR0; clear hR0
  cases h : wi n (-1000) 1000
  · have HG : Hid (gUnit n = (m16z, false)) := by show _ = _; unfold gUnit; rw [h]; rfl
    go_enter Tryd.func15, Tryd.ntmps15
    go_wp2_with (first | (go_at_call 61; (with_reducible refine (l6In_b h _).mono ?_); rintro e w1 ⟨rfl, rfl⟩) | ((with_reducible refine wpList_store_mid ?kg1 26 ?kgx ?kgy ?kg2 (w.heap.size) 0 (cl m16z.get 16).toArray ?kg3 ?kg4 ?kg5 ?kg6 ?kg7 ?kg8); (case kg2 => rfl); (case kg1 => rfl); (case kg3 => rfl); (case kg4 => exact (congrArg Value.agg zeros16.symm)); (case kg5 => exact (HR0.out.thereC m16z.get)); (case kg6 => kernel_rfl); (case kg7 => exact (cl_one _ _))))
    refine bodyPost_ret (v := .tuple #[.agg (cl m16z.get 16).toArray, .bool false]) ?_ rfl (T16Out.no HG.out ?_)
    · exact Eq.trans (results_cell_mid2 Tryd.results15 _ _ (w.heap.size) (cl m16z.get 16) _ (by rfl) (World.rangeAt_setCells_same _ (w.heap.size) 0 (cl m16z.get 16) (HR0.out.thereC m16z.get)) Tryd.underlying26 rfl (by kernel_rfl)) rfl
    · exact setCells_below _ _ _ (by (repeat' first | exact Below.refl _ _ | apply bl_alloc | apply bl_drewN | apply bl_drew | refine bl_trans ?_ (by assumption) | refine bl_set ?_ (by first | omega | (simp <;> omega)) _)) (by omega)
  · have HG : Hid (gUnit n = (m16 ⟨n, 0, 1⟩ ⟨n, 0, 1⟩, true)) := by show _ = _; unfold gUnit; rw [h]; rfl
    go_enter Tryd.func15, Tryd.ntmps15
    go_wp2_with (first | (go_at_call 61; (with_reducible refine (l6In_b h _).mono ?_); rintro e w1 ⟨rfl, rfl⟩))
    refine (sdiag_any ⟨n, 0, 1⟩ _).mono ?_
    rintro e w1 ⟨rfl, hb⟩
    have hz1 : w.heap.size + 1 ≤ w1.heap.size := by have := hb.size; simpa using this
    have HR := Lib.hid ((HR0.out.below hb (by simp)).alloc (by omega) (.cells #[.int .i64 0, .int .i64 0, .int .i64 0, .int .i64 0, .int .i64 0, .int .i64 0, .int .i64 0, .int .i64 0, .int .i64 0, .int .i64 0, .int .i64 0, .int .i64 0, .int .i64 0, .int .i64 0, .int .i64 0, .int .i64 0, .int .i64 0, .int .i64 0, .int .i64 0, .int .i64 0, .int .i64 0, .int .i64 0, .int .i64 0, .int .i64 0, .int .i64 0, .int .i64 0, .int .i64 0, .int .i64 0, .int .i64 0, .int .i64 0, .int .i64 0, .int .i64 0, .int .i64 0, .int .i64 0, .int .i64 0, .int .i64 0, .int .i64 0, .int .i64 0, .int .i64 0, .int .i64 0, .int .i64 0, .int .i64 0, .int .i64 0, .int .i64 0, .int .i64 0, .int .i64 0, .int .i64 0, .int .i64 0] 26))
    have HB : Hid (Below w.heap.size w w1) := by show Below _ _ _; exact ((Below.refl _ _).alloc (Nat.le_refl _) _).trans (hb.mono (by simp))
    have HD := Lib.hid (Room.new' (w := w1) (N := w1.heap.size) (n := 16) (cs := #[.int .i64 0, .int .i64 0, .int .i64 0, .int .i64 0, .int .i64 0, .int .i64 0, .int .i64 0, .int .i64 0, .int .i64 0, .int .i64 0, .int .i64 0, .int .i64 0, .int .i64 0, .int .i64 0, .int .i64 0, .int .i64 0, .int .i64 0, .int .i64 0, .int .i64 0, .int .i64 0, .int .i64 0, .int .i64 0, .int .i64 0, .int .i64 0, .int .i64 0, .int .i64 0, .int .i64 0, .int .i64 0, .int .i64 0, .int .i64 0, .int .i64 0, .int .i64 0, .int .i64 0, .int .i64 0, .int .i64 0, .int .i64 0, .int .i64 0, .int .i64 0, .int .i64 0, .int .i64 0, .int .i64 0, .int .i64 0, .int .i64 0, .int .i64 0, .int .i64 0, .int .i64 0, .int .i64 0, .int .i64 0]) (t := 26) rfl rfl)
    have HC : Hid (World.rangeAt ((w1.alloc (.cells #[.int .i64 0, .int .i64 0, .int .i64 0, .int .i64 0, .int .i64 0, .int .i64 0, .int .i64 0, .int .i64 0, .int .i64 0, .int .i64 0, .int .i64 0, .int .i64 0, .int .i64 0, .int .i64 0, .int .i64 0, .int .i64 0, .int .i64 0, .int .i64 0, .int .i64 0, .int .i64 0, .int .i64 0, .int .i64 0, .int .i64 0, .int .i64 0, .int .i64 0, .int .i64 0, .int .i64 0, .int .i64 0, .int .i64 0, .int .i64 0, .int .i64 0, .int .i64 0, .int .i64 0, .int .i64 0, .int .i64 0, .int .i64 0, .int .i64 0, .int .i64 0, .int .i64 0, .int .i64 0, .int .i64 0, .int .i64 0, .int .i64 0, .int .i64 0, .int .i64 0, .int .i64 0, .int .i64 0, .int .i64 0] 26)).setCells w1.heap.size 0 (cl (m16 Pol.f1 ⟨n, 0, 1⟩).get 16)) w1.heap.size 0 (cl (m16 Pol.f1 ⟨n, 0, 1⟩).get 16)) := by show World.rangeAt _ _ _ _; exact World.rangeAt_setCells_same _ _ _ _ (HD.out.thereC (m16 Pol.f1 ⟨n, 0, 1⟩).get)
    have e0 : ((w1.alloc (.cells #[.int .i64 0, .int .i64 0, .int .i64 0, .int .i64 0, .int .i64 0, .int .i64 0, .int .i64 0, .int .i64 0, .int .i64 0, .int .i64 0, .int .i64 0, .int .i64 0, .int .i64 0, .int .i64 0, .int .i64 0, .int .i64 0, .int .i64 0, .int .i64 0, .int .i64 0, .int .i64 0, .int .i64 0, .int .i64 0, .int .i64 0, .int .i64 0, .int .i64 0, .int .i64 0, .int .i64 0, .int .i64 0, .int .i64 0, .int .i64 0, .int .i64 0, .int .i64 0, .int .i64 0, .int .i64 0, .int .i64 0, .int .i64 0, .int .i64 0, .int .i64 0, .int .i64 0, .int .i64 0, .int .i64 0, .int .i64 0, .int .i64 0, .int .i64 0, .int .i64 0, .int .i64 0, .int .i64 0, .int .i64 0] 26)).setCells w1.heap.size 0 (cl (m16 Pol.f1 ⟨n, 0, 1⟩).get 16)).cell? ⟨w1.heap.size, 0, none⟩ = some (.int .i64 1) := (BoxAt.ofRange HC.out 0 (by omega)).1
    have e1 : ((w1.alloc (.cells #[.int .i64 0, .int .i64 0, .int .i64 0, .int .i64 0, .int .i64 0, .int .i64 0, .int .i64 0, .int .i64 0, .int .i64 0, .int .i64 0, .int .i64 0, .int .i64 0, .int .i64 0, .int .i64 0, .int .i64 0, .int .i64 0, .int .i64 0, .int .i64 0, .int .i64 0, .int .i64 0, .int .i64 0, .int .i64 0, .int .i64 0, .int .i64 0, .int .i64 0, .int .i64 0, .int .i64 0, .int .i64 0, .int .i64 0, .int .i64 0, .int .i64 0, .int .i64 0, .int .i64 0, .int .i64 0, .int .i64 0, .int .i64 0, .int .i64 0, .int .i64 0, .int .i64 0, .int .i64 0, .int .i64 0, .int .i64 0, .int .i64 0, .int .i64 0, .int .i64 0, .int .i64 0, .int .i64 0, .int .i64 0] 26)).setCells w1.heap.size 0 (cl (m16 Pol.f1 ⟨n, 0, 1⟩).get 16)).frozen? ⟨w1.heap.size, 0, none⟩ = false := ((Room.setsF _ _ _ HD.out) 0 (by omega)).2
    have HU := Lib.hid ((BoxAt.setRe0 (BoxAt.ofRange HC.out) (Room.setsF _ _ _ HD.out) (by omega) n).congr (h := (m16 ⟨n, 0, 1⟩ ⟨n, 0, 1⟩).get) (fun k hk => diag_u n hk))
    have HV := Lib.hid (((Room.setsF w1.heap.size (cl (m16 Pol.f1 ⟨n, 0, 1⟩).get 16) 0 HR.out).set ⟨w1.heap.size, 0, none⟩ (.int .i64 n)).thereC (m16 ⟨n, 0, 1⟩ ⟨n, 0, 1⟩).get)
    clear hb
    go_wp2_with (first
      | ((with_reducible refine wpList_store_mid ?kh1 26 ?khx ?khy ?kh2 (w1.heap.size) 0 (cl (m16 Pol.f1 ⟨n, 0, 1⟩).get 16).toArray ?kh3 ?kh4 ?kh5 ?kh6 ?kh7 ?kh8); (case kh2 => rfl); (case kh1 => rfl); (case kh3 => rfl); (case kh4 => rfl); (case kh5 => exact (HD.out.thereC _)); (case kh6 => kernel_rfl); (case kh7 => exact (cl_one _ _)))
      | ((with_reducible refine wpList_load_mid ?ki1 26 ?kix ?ki2 (w1.heap.size) 0 ?ki3 (cl (m16 ⟨n, 0, 1⟩ ⟨n, 0, 1⟩).get 16) ?kid ?ki4 ?ki5 ?ki6 ?ki7 ?ki8); (case ki2 => rfl); (case ki1 => rfl); (case ki3 => rfl); (case ki4 => exact (HU.out.range)); (case ki5 => exact Tryd.underlying26); (case ki6 => rfl); (case ki7 => kernel_rfl))
      | ((with_reducible refine wpList_store_mid ?kj1 26 ?kjx ?kjy ?kj2 (w.heap.size) 0 (cl (m16 ⟨n, 0, 1⟩ ⟨n, 0, 1⟩).get 16).toArray ?kj3 ?kj4 ?kj5 ?kj6 ?kj7 ?kj8); (case kj2 => rfl); (case kj1 => rfl); (case kj3 => rfl); (case kj4 => rfl); (case kj5 => exact (HV.out)); (case kj6 => kernel_rfl); (case kj7 => exact (cl_one _ _))))
    refine bodyPost_ret (v := .tuple #[.agg (cl (m16 ⟨n, 0, 1⟩ ⟨n, 0, 1⟩).get 16).toArray, .bool true]) ?_ rfl (T16Out.yes HG.out ?_)
    · exact Eq.trans (results_cell_mid2 Tryd.results15 _ _ (w.heap.size) (cl (m16 ⟨n, 0, 1⟩ ⟨n, 0, 1⟩).get 16) _ (by rfl) (World.rangeAt_setCells_same _ (w.heap.size) 0 (cl (m16 ⟨n, 0, 1⟩ ⟨n, 0, 1⟩).get 16) HV.out) Tryd.underlying26 rfl (by kernel_rfl)) rfl
    · exact setCells_below _ _ _ (Below.setCell (setCells_below _ _ _ (HB.out.alloc (by omega) _) (by omega)) (by show _ ≤ w1.heap.size; omega) _) (by omega)
set_option maxRecDepth 100000 in
set_option maxHeartbeats 8000000 in
theorem itunit_any (n : Int) (w : World) (hg_zero : Gat w 1 (ixF f0) 1) : Calls Tryd.prog 16 #[.int .i64 n] w (T16Out (gUnit n) w) := by
  have HZ := Lib.hid hg_zero; clear hg_zero
  have hR0 := Room.new' (w := w) (N := w.heap.size) (n := 16) (cs := #[.int .i64 0, .int .i64 0, .int .i64 0, .int .i64 0, .int .i64 0, .int .i64 0, .int .i64 0, .int .i64 0, .int .i64 0, .int .i64 0, .int .i64 0, .int .i64 0, .int .i64 0, .int .i64 0, .int .i64 0, .int .i64 0, .int .i64 0, .int .i64 0, .int .i64 0, .int .i64 0, .int .i64 0, .int .i64 0, .int .i64 0, .int .i64 0, .int .i64 0, .int .i64 0, .int .i64 0, .int .i64 0, .int .i64 0, .int .i64 0, .int .i64 0, .int .i64 0, .int .i64 0, .int .i64 0, .int .i64 0, .int .i64 0, .int .i64 0, .int .i64 0, .int .i64 0, .int .i64 0, .int .i64 0, .int .i64 0, .int .i64 0, .int .i64 0, .int .i64 0, .int .i64 0, .int .i64 0, .int .i64 0]) (t := 26) rfl rfl
  have HR0 := Lib.hid hR0; clear hR0
  cases h : wi n (-1000) 1000
  · have HG : Hid (gUnit n = (m16z, false)) := by show _ = _; unfold gUnit; rw [h]; rfl
    go_enter Tryd.func16, Tryd.ntmps16
    go_wp2_with (first | (go_at_call 63; (with_reducible refine (within_b h _).mono ?_); rintro e w1 ⟨rfl, rfl⟩) | ((with_reducible refine wpList_store_mid ?kl1 26 ?klx ?kly ?kl2 (w.heap.size) 0 (cl m16z.get 16).toArray ?kl3 ?kl4 ?kl5 ?kl6 ?kl7 ?kl8); (case kl2 => rfl); (case kl1 => rfl); (case kl3 => rfl); (case kl4 => exact (congrArg Value.agg zeros16.symm)); (case kl5 => exact (HR0.out.thereC m16z.get)); (case kl6 => kernel_rfl); (case kl7 => exact (cl_one _ _))))
    refine bodyPost_ret (v := .tuple #[.agg (cl m16z.get 16).toArray, .bool false]) ?_ rfl (T16Out.no HG.out ?_)
    · exact Eq.trans (results_cell_mid2 Tryd.results16 _ _ (w.heap.size) (cl m16z.get 16) _ (by rfl) (World.rangeAt_setCells_same _ (w.heap.size) 0 (cl m16z.get 16) (HR0.out.thereC m16z.get)) Tryd.underlying26 rfl (by kernel_rfl)) rfl
    · exact setCells_below _ _ _ (by (repeat' first | exact Below.refl _ _ | apply bl_alloc | apply bl_drewN | apply bl_drew | refine bl_trans ?_ (by assumption) | refine bl_set ?_ (by first | omega | (simp <;> omega)) _)) (by omega)
  · have HG : Hid (gUnit n = (m16 ⟨n, 0, 1⟩ ⟨n, 0, 1⟩, true)) := by show _ = _; unfold gUnit; rw [h]; rfl
    go_enter Tryd.func16, Tryd.ntmps16
    go_wp2_with (first | (go_at_call 63; (with_reducible refine (within_b h _).mono ?_); rintro e w1 ⟨rfl, rfl⟩))
    refine (whole_any n _).mono ?_
    rintro e w1 ⟨rfl, hb⟩
    have hz1 : w.heap.size + 1 ≤ w1.heap.size := by have := hb.size; simpa using this
    have HB : Hid (Below w.heap.size w w1) := by show Below _ _ _; exact ((Below.refl _ _).alloc (Nat.le_refl _) _).trans (hb.mono (by simp))
    have HR := Lib.hid (HR0.out.below hb (by simp))
    clear hb
    go_wp2_with fail
    refine (whole_any n _).mono ?_
    rintro e w2 ⟨rfl, hb⟩
    have hz2 := hb.size
    have HR := Lib.hid (HR.out.below hb (by omega))
    have HB := Lib.hid (show Below w.heap.size w w2 from HB.out.trans (hb.mono HB.out.size))
    clear hb
    go_wp2_with fail
    refine (idiag_any ⟨n, 0, 1⟩ ⟨n, 0, 1⟩ _ (HZ.out.below HB.out)).mono ?_
    rintro e w3 ⟨rfl, hb⟩
    have HR := Lib.hid ((HR.out.below hb (by omega)).thereC (m16 ⟨n, 0, 1⟩ ⟨n, 0, 1⟩).get)
    have HB := Lib.hid (show Below w.heap.size w w3 from HB.out.trans (hb.mono HB.out.size))
    clear hb
    go_wp2_with (first | ((with_reducible refine wpList_store_mid ?km1 26 ?kmx ?kmy ?km2 (w.heap.size) 0 (cl (m16 ⟨n, 0, 1⟩ ⟨n, 0, 1⟩).get 16).toArray ?km3 ?km4 ?km5 ?km6 ?km7 ?km8); (case km2 => rfl); (case km1 => rfl); (case km3 => rfl); (case km4 => rfl); (case km5 => exact (HR.out)); (case km6 => kernel_rfl); (case km7 => exact (cl_one _ _))))
    refine bodyPost_ret (v := .tuple #[.agg (cl (m16 ⟨n, 0, 1⟩ ⟨n, 0, 1⟩).get 16).toArray, .bool true]) ?_ rfl (T16Out.yes HG.out ?_)
    · exact Eq.trans (results_cell_mid2 Tryd.results16 _ _ (w.heap.size) (cl (m16 ⟨n, 0, 1⟩ ⟨n, 0, 1⟩).get 16) _ (by rfl) (World.rangeAt_setCells_same _ (w.heap.size) 0 (cl (m16 ⟨n, 0, 1⟩ ⟨n, 0, 1⟩).get 16) HR.out) Tryd.underlying26 rfl (by kernel_rfl)) rfl
    · exact setCells_below _ _ _ HB.out (by omega)
end Go.Proofs.YtmcokdiopcpifaaDoor
