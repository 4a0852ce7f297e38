/- Contracts of the laws' helpers: two equal tables are equal. -/
import Derived.Test.YtmcokdiopcpifaaDoorTB
import Derived.Test.YtmcokdiopcpifaaDoorM
set_option maxRecDepth 100000
namespace Go.Proofs.YtmcokdiopcpifaaDoor
open Go.RowKit Pol

structure QRel (W : World) (g : Nat → Fr) (n k : Nat) (wr : World) : Prop where
  le : k ≤ n
  below : Below W.heap.size W wr
  size : W.heap.size + 1 + 1 ≤ wr.heap.size
  one : BoxAt wr W.heap.size g n
  two : BoxAt wr (W.heap.size + 1) g n
def QR (W : World) (g : Nat → Fr) (n : Nat) (i : Value) (wr : World) : Prop := ∃ k : Nat, i = .int .i64 k ∧ QRel W g n k wr
theorem QRel.step {W wr w1 : World} {g : Nat → Fr} {n k : Nat} (h : QRel W g n k wr) (hk : k < n) (hb : Below wr.heap.size wr w1) : QRel W g n (k + 1) w1 := by
  have hs := h.size
  exact ⟨hk, h.below.trans (hb.mono h.below.size), Nat.le_trans hs hb.size, h.one.below hb (by omega), h.two.below hb (by omega)⟩
theorem QRel.drewN {W wr : World} {g : Nat → Fr} {n k q : Nat} (h : QRel W g n k wr) : QRel W g n k (wr.drewN q) := ⟨h.le, below_drewN h.below q, h.size, h.one, h.two⟩
set_option maxHeartbeats 4000000 in
theorem eqFracA16_cc (m : M16) (w : World) :
    Calls Tryd.prog 66 #[.agg (cl m.get 16).toArray, .agg (cl m.get 16).toArray] w fun e w' => e = .returned (.bool true) ∧ Below w.heap.size w w' := by
  have HX : Hid (BoxAt ((w.alloc (.cells (cl m.get 16).toArray 24)).alloc (.cells (cl m.get 16).toArray 24)) (w.heap.size) m.get 16) := by
    show BoxAt _ _ _ _
    exact BoxAt.ofRange (World.rangeAt_alloc (rangeAt_new _ _ _) _)
  have HY : Hid (BoxAt ((w.alloc (.cells (cl m.get 16).toArray 24)).alloc (.cells (cl m.get 16).toArray 24)) (w.heap.size + 1) m.get 16) := by
    show BoxAt _ _ _ _
    exact BoxAt.ofRange (rangeAt_nw (by simp))
  go_enter Tryd.func66, Tryd.ntmps66
  go_wp2
  go_loopw [5] (fun i wr => QR w m.get 16 i wr) (fun i _ => (16 - intOf i).toNat)
  case atStart =>
    exact ⟨0, rfl, by omega, by (repeat' first | exact Below.refl _ _ | apply bl_alloc | apply bl_drewN | apply bl_drew | refine bl_trans ?_ (by assumption) | refine bl_set ?_ (by first | omega | (simp <;> omega)) _), by simp, HX.out, HY.out⟩
  case round =>
    obtain ⟨k, rfl, hT⟩ := hrel
    by_cases h4 : k < 16
    · obtain ⟨c0, c1, c2⟩ := hT.one k h4
      obtain ⟨d0, d1, d2⟩ := hT.two k h4
      have hs := hT.size
      have i0 : (0 : Int) ≤ (k : Int) := by omega
      have i1 : (k : Int) < 16 := by omega
      go_wp2
      go_region_held3 (fun w' => w'.cell? ⟨w.heap.size, k * 3, none⟩ = some (.int .i64 (m.get k).re) ∧ w'.cell? ⟨w.heap.size, k * 3 + 1, none⟩ = some (.int .i64 (m.get k).im) ∧ w'.cell? ⟨w.heap.size, k * 3 + 2, none⟩ = some (.int .i64 (m.get k).den) ∧ w'.cell? ⟨w.heap.size + 1, k * 3, none⟩ = some (.int .i64 (m.get k).re) ∧ w'.cell? ⟨w.heap.size + 1, k * 3 + 1, none⟩ = some (.int .i64 (m.get k).im) ∧ w'.cell? ⟨w.heap.size + 1, k * 3 + 2, none⟩ = some (.int .i64 (m.get k).den))
        (go_keep)
        (first | (go_at_call 81; (with_reducible refine (eqFrac_same _ _).mono ?_); rintro e w1 ⟨rfl, hb⟩; have hb' := hb; obtain ⟨hc, hf, hz⟩ := bcellk (B := w.heap.size + 1 + 1) hb (by first | omega | (simp <;> omega))))
      go_wp2
      go_roundw
      case rel => exact ⟨k + 1, by go_num, hT.drewN.step h4 hb'⟩
      case measure => simp [intOf]; omega
    · obtain rfl : k = 16 := by have := hT.le; omega
      go_wp2
      go_ret
      exact ⟨rfl, hT.below⟩
set_option maxRecDepth 100000 in
set_option maxHeartbeats 4000000 in
theorem eqTable_cc (m : M16) (w : World) :
    Calls Tryd.prog 17 #[.agg (cl m.get 16).toArray, .agg (cl m.get 16).toArray] w fun e w' => e = .returned (.bool true) ∧ Below w.heap.size w w' := by
  have HX : Hid (World.rangeAt ((w.alloc (.cells (cl m.get 16).toArray 26)).alloc (.cells (cl m.get 16).toArray 26)) (w.heap.size) 0 (cl m.get 16)) := by
    show World.rangeAt _ _ _ _
    exact World.rangeAt_alloc (rangeAt_new _ _ _) _
  have HY : Hid (World.rangeAt ((w.alloc (.cells (cl m.get 16).toArray 26)).alloc (.cells (cl m.get 16).toArray 26)) (w.heap.size + 1) 0 (cl m.get 16)) := by
    show World.rangeAt _ _ _ _
    exact rangeAt_nw (by simp)
  go_enter Tryd.func17, Tryd.ntmps17
  go_wp2_with (first | ((with_reducible refine wpList_load_mid ?ka1 24 ?kax ?ka2 (w.heap.size) 0 ?ka3 (cl m.get 16) ?kad ?ka4 ?ka5 ?ka6 ?ka7 ?ka8); (case ka2 => rfl); (case ka1 => rfl); (case ka3 => rfl); (case ka4 => (exact HX.out)); (case ka5 => exact Tryd.underlying24); (case ka6 => rfl); (case ka7 => kernel_rfl)) | ((with_reducible refine wpList_load_mid ?kb1 24 ?kbx ?kb2 (w.heap.size + 1) 0 ?kb3 (cl m.get 16) ?kbd ?kb4 ?kb5 ?kb6 ?kb7 ?kb8); (case kb2 => rfl); (case kb1 => rfl); (case kb3 => rfl); (case kb4 => (exact HY.out)); (case kb5 => exact Tryd.underlying24); (case kb6 => rfl); (case kb7 => kernel_rfl)))
  refine (eqFracA16_cc m _).mono ?_
  rintro e w1 ⟨rfl, hb⟩
  go_wp2
  go_ret
  exact ⟨rfl, by (repeat' first | exact Below.refl _ _ | apply bl_alloc | apply bl_drewN | apply bl_drew | refine bl_trans ?_ (by assumption) | refine bl_set ?_ (by first | omega | (simp <;> omega)) _)⟩
end Go.Proofs.YtmcokdiopcpifaaDoor
