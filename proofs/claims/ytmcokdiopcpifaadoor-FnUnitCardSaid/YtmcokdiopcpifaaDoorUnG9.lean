/- A box laid at a place that is known otherwise. -/
import Derived.Test.YtmcokdiopcpifaaDoorUnG5
import Derived.Deep.DeepCutAuto
import Derived.Deep.RegionHeld3
import Derived.BigQuiet
import Derived.Test.YtmcokdiopcpifaaDoorUnF
import Derived.Laws.Rows
set_option maxRecDepth 100000
namespace Go.Proofs.YtmcokdiopcpifaaDoor
open Go.RowKit Pol
theorem rangeAt_nw {w : World} {L : List Value} {t : TypeId} {N : Nat} (h : w.heap.size = N) : (w.alloc (.cells L.toArray t)).rangeAt N 0 L := h ▸ rangeAt_new w L t
end Go.Proofs.YtmcokdiopcpifaaDoor
namespace Go.Proofs.YtmcokdiopcpifaaDoor
open Go.RowKit Pol
theorem setCells_size2 (g : Nat) : ∀ (vs : List Value) (o : Nat) (w : World), (w.setCells g o vs).heap.size = w.heap.size
  | [], _, _ => rfl
  | _ :: vs, o, _ => (setCells_size2 g vs (o + 1) _).trans (World.size_setCell _ _ _)
theorem Room.setsF {X n : Nat} (b : Nat) : ∀ (vs : List Value) (o : Nat) {w : World}, Room w X n → Room (w.setCells b o vs) X n
  | [], _, _, h => h
  | v :: vs, o, _, h => Room.setsF b vs (o + 1) (h.set ⟨b, o, none⟩ v)
structure BX (w : World) (R nz : Nat) (L : List (Nat × List Value)) (W : World) : Prop where
  below : Below w.heap.size w W
  hR : R < W.heap.size ∨ nz = 0
  room : Room W R nz
  box : ∀ e ∈ L, e.1 < W.heap.size ∧ W.rangeAt e.1 0 e.2
theorem BX.next {w W W' : World} {R nz : Nat} {L : List (Nat × List Value)} (K : BX w R nz L W) (hb : Below W.heap.size W W') : BX w R nz L W' :=
  ⟨K.below.trans (hb.mono K.below.size), K.hR.imp (fun h => Nat.lt_of_lt_of_le h hb.size) id, by
    rcases K.hR with h | h
    · exact K.room.below hb h
    · subst h; exact fun j hj => absurd hj (Nat.not_lt_zero _), fun e he => ⟨Nat.lt_of_lt_of_le (K.box e he).1 hb.size, rangeAt_below (K.box e he).2 hb (K.box e he).1⟩⟩
theorem BX.alloc {w W : World} {R nz : Nat} {L : List (Nat × List Value)} (K : BX w R nz L W) (z : Obj) : BX w R nz L (W.alloc z) := K.next ((Below.refl _ _).alloc (Nat.le_refl _) z)
theorem BX.drew {w W : World} {R nz : Nat} {L : List (Nat × List Value)} (K : BX w R nz L W) : BX w R nz L W.drew := K.next (Below.refl _ _).drew
theorem BX.nil {w W : World} {R nz : Nat} (h : Below w.heap.size w W) (hR : R < W.heap.size ∨ nz = 0) (r : Room W R nz) : BX w R nz [] W := ⟨h, hR, r, fun e he => by cases he⟩
end Go.Proofs.YtmcokdiopcpifaaDoor
namespace Go.Proofs.YtmcokdiopcpifaaDoor
open Go.RowKit Pol
theorem idx16 (m : M16) (k : Nat) (hk : k < 16) (w : World) : (Instr.index 24 (.agg #[.int .i64 m.a.a.re, .int .i64 m.a.a.im, .int .i64 m.a.a.den, .int .i64 m.a.b.re, .int .i64 m.a.b.im, .int .i64 m.a.b.den, .int .i64 m.a.c.re, .int .i64 m.a.c.im, .int .i64 m.a.c.den, .int .i64 m.a.d.re, .int .i64 m.a.d.im, .int .i64 m.a.d.den, .int .i64 m.b.a.re, .int .i64 m.b.a.im, .int .i64 m.b.a.den, .int .i64 m.b.b.re, .int .i64 m.b.b.im, .int .i64 m.b.b.den, .int .i64 m.b.c.re, .int .i64 m.b.c.im, .int .i64 m.b.c.den, .int .i64 m.b.d.re, .int .i64 m.b.d.im, .int .i64 m.b.d.den, .int .i64 m.c.a.re, .int .i64 m.c.a.im, .int .i64 m.c.a.den, .int .i64 m.c.b.re, .int .i64 m.c.b.im, .int .i64 m.c.b.den, .int .i64 m.c.c.re, .int .i64 m.c.c.im, .int .i64 m.c.c.den, .int .i64 m.c.d.re, .int .i64 m.c.d.im, .int .i64 m.c.d.den, .int .i64 m.d.a.re, .int .i64 m.d.a.im, .int .i64 m.d.a.den, .int .i64 m.d.b.re, .int .i64 m.d.b.im, .int .i64 m.d.b.den, .int .i64 m.d.c.re, .int .i64 m.d.c.im, .int .i64 m.d.c.den, .int .i64 m.d.d.re, .int .i64 m.d.d.im, .int .i64 m.d.d.den]) (.int .i64 k)).run Tryd.prog w = .ok (.agg #[.int .i64 (m.get k).re, .int .i64 (m.get k).im, .int .i64 (m.get k).den]) w := by
  have h16 : k = 0 ∨ k = 1 ∨ k = 2 ∨ k = 3 ∨ k = 4 ∨ k = 5 ∨ k = 6 ∨ k = 7 ∨ k = 8 ∨ k = 9 ∨ k = 10 ∨ k = 11 ∨ k = 12 ∨ k = 13 ∨ k = 14 ∨ k = 15 := by omega
  rcases h16 with rfl | rfl | rfl | rfl | rfl | rfl | rfl | rfl | rfl | rfl | rfl | rfl | rfl | rfl | rfl | rfl
  · exact idx16_0 m w
  · exact idx16_1 m w
  · exact idx16_2 m w
  · exact idx16_3 m w
  · exact idx16_4 m w
  · exact idx16_5 m w
  · exact idx16_6 m w
  · exact idx16_7 m w
  · exact idx16_8 m w
  · exact idx16_9 m w
  · exact idx16_10 m w
  · exact idx16_11 m w
  · exact idx16_12 m w
  · exact idx16_13 m w
  · exact idx16_14 m w
  · exact idx16_15 m w
set_option maxHeartbeats 4000000 in
theorem itablevalid_any (m : M16) (w : World) :
    Calls Tryd.prog 48 #[.agg #[.int .i64 m.a.a.re, .int .i64 m.a.a.im, .int .i64 m.a.a.den, .int .i64 m.a.b.re, .int .i64 m.a.b.im, .int .i64 m.a.b.den, .int .i64 m.a.c.re, .int .i64 m.a.c.im, .int .i64 m.a.c.den, .int .i64 m.a.d.re, .int .i64 m.a.d.im, .int .i64 m.a.d.den, .int .i64 m.b.a.re, .int .i64 m.b.a.im, .int .i64 m.b.a.den, .int .i64 m.b.b.re, .int .i64 m.b.b.im, .int .i64 m.b.b.den, .int .i64 m.b.c.re, .int .i64 m.b.c.im, .int .i64 m.b.c.den, .int .i64 m.b.d.re, .int .i64 m.b.d.im, .int .i64 m.b.d.den, .int .i64 m.c.a.re, .int .i64 m.c.a.im, .int .i64 m.c.a.den, .int .i64 m.c.b.re, .int .i64 m.c.b.im, .int .i64 m.c.b.den, .int .i64 m.c.c.re, .int .i64 m.c.c.im, .int .i64 m.c.c.den, .int .i64 m.c.d.re, .int .i64 m.c.d.im, .int .i64 m.c.d.den, .int .i64 m.d.a.re, .int .i64 m.d.a.im, .int .i64 m.d.a.den, .int .i64 m.d.b.re, .int .i64 m.d.b.im, .int .i64 m.d.b.den, .int .i64 m.d.c.re, .int .i64 m.d.c.im, .int .i64 m.d.c.den, .int .i64 m.d.d.re, .int .i64 m.d.d.im, .int .i64 m.d.d.den]] w fun e w' => e = .returned (.bool (all16 realB m)) ∧ Below w.heap.size w w' := by
  go_enter Tryd.func48, Tryd.ntmps48
  go_wp2_with (refine wpList_load_row rfl 24 _ rfl w.heap.size rfl 26 _ (0, 0) _ (heap_alloc_new w _) Tryd.underlying24 rfl (by kernel_rfl) ?_)
  go_loopw [7] (fun i wr => VRel realB m.get 16 w i wr) (fun i _ => (16 - intOf i).toNat)
  case atStart => exact VRel.mk 0 (by omega) rfl rfl (by (repeat' first | exact Below.refl _ _ | apply bl_alloc | apply bl_drewN | apply bl_drew | refine bl_trans ?_ (by assumption) | refine bl_set ?_ (by first | omega | (simp <;> omega)) _))
  case round =>
    obtain ⟨k, hk, rfl, HP, hb⟩ := hrel
    by_cases h5 : k < 16
    · have ik := idx16 m k h5
      cases h : realB (m.get k)
      · go_wp2_with (go_at_call 68; (with_reducible refine (realOk_b h _).mono ?_); rintro e w1 ⟨rfl, hb1⟩)
        go_ret
        exact ⟨ret_bool (apre_no h 16 (by omega)).symm, by (repeat' first | exact Below.refl _ _ | apply bl_alloc | apply bl_drewN | apply bl_drew | refine bl_trans ?_ (by assumption) | refine bl_set ?_ (by first | omega | (simp <;> omega)) _)⟩
      · go_wp2_with (go_at_call 68; (with_reducible refine (realOk_b h _).mono ?_); rintro e w1 ⟨rfl, hb1⟩)
        go_roundw
        case rel => exact VRel.mk (k + 1) (by omega) (by go_num) (apre_s HP.out h) (by (repeat' first | exact Below.refl _ _ | apply bl_alloc | apply bl_drewN | apply bl_drew | refine bl_trans ?_ (by assumption) | refine bl_set ?_ (by first | omega | (simp <;> omega)) _))
        case measure => simp [intOf]; omega
    · obtain rfl : k = 16 := by omega
      go_wp2
      go_ret
      exact ⟨ret_bool HP.out.symm, by (repeat' first | exact Below.refl _ _ | apply bl_alloc | apply bl_drewN | apply bl_drew | refine bl_trans ?_ (by assumption) | refine bl_set ?_ (by first | omega | (simp <;> omega)) _)⟩
end Go.Proofs.YtmcokdiopcpifaaDoor
