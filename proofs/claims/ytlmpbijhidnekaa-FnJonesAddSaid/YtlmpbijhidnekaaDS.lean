/- Contracts: draws of four numbers. -/
import Derived.Test.YtlmpbijhidnekaaDD
import Derived.Test.YtlmpbijhidnekaaSF
import Derived.Test.YtlmpbijhidnekaaK2
namespace Go.Proofs.Ytlmpbijhidnekaa
open Go.RowKit Pol

theorem Own.sets {R : Nat} {w : World} (b : Nat) : ∀ (vs : List Value) (o : Nat) {w1 : World}, Own R w w1 → w.heap.size ≤ b → Own R w (w1.setCells b o vs)
  | [], _, _, h, _ => h
  | v :: vs, o, _, h, hb => Own.sets b vs (o + 1) (h.setNew hb v) hb
theorem Rd.puts {N R : Nat} {a0 : Option Addr} {len cap k : Nat} (b : Nat) : ∀ (vs : List Value) (o : Nat) {w : World}, Rd N R a0 len cap k w → R < b → Rd N R a0 len cap k (w.setCells b o vs)
  | [], _, _, h, _ => h
  | v :: vs, o, _, h, hb => Rd.puts b vs (o + 1) (h.put hb v) hb
/-- The loop that draws the four. -/
structure DRel (N R : Nat) (a0 : Option Addr) (len cap kk O : Nat) (w : World) (i : Nat) (wr : World) : Prop where
  le : i ≤ 4
  own : Own R w wr
  rd : Rd N R a0 len cap (kk + 20 * i) wr
  lo : w.heap.size < O
  hi : O < wr.heap.size
  res : Room wr w.heap.size 4
  room : Room wr O 4
  box : ∃ g : Nat → Fr, BoxAt wr O g i
theorem DRel.step {N R : Nat} {a0 : Option Addr} {len cap kk O : Nat} {w wr w1 : World} {i : Nat} (h : DRel N R a0 len cap kk O w i wr) (h4 : i < 4) (hR : R < w.heap.size) (hO : Own R wr w1) (hd : Rd N R a0 len cap (kk + 20 * i + 20) w1) (f : Fr) :
    DRel N R a0 len cap kk O w (i + 1) (putF w1 O i f) := by
  have h1 := h.lo
  have h2 := h.hi
  have h3 := hO.size
  have h5 := h.own.size
  obtain ⟨g, hg⟩ := h.box
  have hg1 := hg.own hO h2 (by omega)
  have hr1 := h.room.own hO h2 (by omega)
  refine ⟨by omega, (((h.own.trans hO).setNew (by omega) _).setNew (by omega) _).setNew (by omega) _, (((hd.mono (by omega)).put (by omega) _).put (by omega) _).put (by omega) _, h1, by rw [putF_size]; omega, (h.res.own hO (by omega) (by omega)).put _ _ _, hr1.put _ _ _, ⟨fun j => if j = i then f else g j, ?_⟩⟩
  have hb : BoxAt w1 O (fun j => if j = i then f else g j) i := fun j hj => by
    show _ ∧ _
    simp only [if_neg (show ¬ j = i by omega)]
    exact hg1 j hj
  have := hb.put hr1 h4
  simpa using this
def DR (N R : Nat) (a0 : Option Addr) (len cap kk O : Nat) (w : World) (v : Value) (wr : World) : Prop := ∃ i : Nat, v = .int .i64 i ∧ DRel N R a0 len cap kk O w i wr
def m4g (g : Nat → Fr) : M4 := ⟨g 0, g 1, g 2, g 3⟩
theorem m4g_get (g : Nat → Fr) {k : Nat} (hk : k < 4) : (m4g g).get k = g k := by
  have : k = 0 ∨ k = 1 ∨ k = 2 ∨ k = 3 := by omega
  rcases this with rfl | rfl | rfl | rfl <;> rfl
def OpenOut (N : Nat) (a0 : Option Addr) (cap : Nat) (w : World) (e : Ending) (w' : World) : Prop := ∃ R len', e = .returned (.pointer (some ⟨R, 0, none⟩)) ∧ Below w.heap.size w w' ∧ w.heap.size ≤ R ∧ Rd N R a0 len' cap 0 w'
set_option maxHeartbeats 2000000 in
theorem open_any (N : Nat) (a0 : Option Addr) (len cap : Nat) (w : World) (hN : N ≤ w.heap.size) (hc : len ≤ cap) (HC : Code N w a0 len) :
    Calls Try.prog 41 #[.slice a0 len cap] w (OpenOut N a0 cap w) := by
  by_cases h : 2000 < len
  · obtain ⟨B, off, rfl, hB, -⟩ := HC 0 (by omega)
    have h1 : (2000 : Int) < (len : Int) := by omega
    have h2 : (2000 : Int) ≤ (cap : Int) := by omega
    have h3 : 2000 ≤ cap := by omega
    go_enter Try.func41, Try.ntmps41
    go_wp2
    go_ret
    refine ⟨w.heap.size, 2000, rfl, by (repeat' first | exact Below.refl _ _ | apply bl_alloc | apply bl_drewN | apply bl_drew | refine bl_trans ?_ (by assumption) | refine bl_set ?_ (by first | omega | (simp <;> omega)) _), Nat.le_refl _, ⟨by simp, hN, by simp [go_sem], ⟨0, by omega, by simp [go_sem]⟩, by simp [go_sem], by omega, ?_⟩⟩
    exact Code.keep (fun i hi => HC i (by omega)) fun B o hB => World.cell?_alloc_old _ _ _ (by show B ≠ w.heap.size; omega)
  · have h1 : ¬ (2000 : Int) < (len : Int) := by omega
    go_enter Try.func41, Try.ntmps41
    go_wp2
    go_ret
    refine ⟨w.heap.size, len, rfl, by (repeat' first | exact Below.refl _ _ | apply bl_alloc | apply bl_drewN | apply bl_drew | refine bl_trans ?_ (by assumption) | refine bl_set ?_ (by first | omega | (simp <;> omega)) _), Nat.le_refl _, ⟨by simp, hN, by simp [go_sem], ⟨0, by omega, by simp [go_sem]⟩, by simp [go_sem], by omega, ?_⟩⟩
    exact HC.keep fun B o hB => World.cell?_alloc_old _ _ _ (by show B ≠ w.heap.size; omega)
end Go.Proofs.Ytlmpbijhidnekaa
