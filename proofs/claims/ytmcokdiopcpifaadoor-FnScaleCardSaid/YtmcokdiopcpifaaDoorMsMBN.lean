/- Contracts: a matrix upon a vector, the program's side. -/
import Derived.Test.YtmcokdiopcpifaaDoorMsMA
import Derived.Test.YtmcokdiopcpifaaDoorMsJ
set_option maxRecDepth 100000
namespace Go.Proofs.YtmcokdiopcpifaaDoor
open Go.RowKit Pol
theorem CK.grow {w W : World} {P R nz B B' : Nat} {v : Bool} {L : List (Nat × Nat × (Nat → Fr))} (K : CK w P R nz v B L W) (h : B ≤ B') (h2 : B' ≤ W.heap.size) : CK w P R nz v B' L W :=
  have h3 := K.hP
  have h4 := K.hR
  ⟨K.below, K.lo, by omega, by omega, K.nR, K.lR, h2, K.cell, K.free, K.room, fun e he => by
    obtain ⟨k1, k2, k3⟩ := K.box e he
    exact ⟨by omega, k2, k3⟩⟩
/-- The product, the program's way. -/
def mApI (m : M4) (x : J2) : J2 × Bool := gt j2z (((((((false || !(all4 vld m && jv x)) || !(fTimes (m.get 0) x.x).2) || !(fTimes (m.get 1) x.y).2) || !(fAdd (fTimes (m.get 0) x.x).1 (fTimes (m.get 1) x.y).1).2) || !(fTimes (m.get 2) x.x).2) || !(fTimes (m.get 3) x.y).2) || !(fAdd (fTimes (m.get 2) x.x).1 (fTimes (m.get 3) x.y).1).2) ⟨(fAdd (fTimes (m.get 0) x.x).1 (fTimes (m.get 1) x.y).1).1, (fAdd (fTimes (m.get 2) x.x).1 (fTimes (m.get 3) x.y).1).1⟩
set_option maxRecDepth 100000 in
set_option maxHeartbeats 40000000 in
theorem imap_any (m : M4) (x : J2) (hm : all4 vld m = true) (w : World) : Calls Tryd.prog 60 #[.agg #[.int .i64 m.a.re, .int .i64 m.a.im, .int .i64 m.a.den, .int .i64 m.b.re, .int .i64 m.b.im, .int .i64 m.b.den, .int .i64 m.c.re, .int .i64 m.c.im, .int .i64 m.c.den, .int .i64 m.d.re, .int .i64 m.d.im, .int .i64 m.d.den], .agg #[.int .i64 x.x.re, .int .i64 x.x.im, .int .i64 x.x.den, .int .i64 x.y.re, .int .i64 x.y.im, .int .i64 x.y.den]] w (J2Out (mApI m x) w) := by
  have hmf : ∀ (fn : Fn) (first cap : Array Value) (w : World), (Instr.makeFunc fn first cap).run Tryd.prog w = .ok (.func fn first cap) w := fun _ _ _ _ => rfl
  have K0 : Hid (CK w (w.heap.size + 1 + 1 + 1) (w.heap.size + 1 + 1) 2 false (w.heap.size + 1 + 1 + 1 + 1) [(w.heap.size, 4, m.get), (w.heap.size + 1, 2, j2k x)] ((((w.alloc (.cells #[.int .i64 m.a.re, .int .i64 m.a.im, .int .i64 m.a.den, .int .i64 m.b.re, .int .i64 m.b.im, .int .i64 m.b.den, .int .i64 m.c.re, .int .i64 m.c.im, .int .i64 m.c.den, .int .i64 m.d.re, .int .i64 m.d.im, .int .i64 m.d.den] 41)).alloc (.cells #[.int .i64 x.x.re, .int .i64 x.x.im, .int .i64 x.x.den, .int .i64 x.y.re, .int .i64 x.y.im, .int .i64 x.y.den] 47)).alloc (.cells #[.int .i64 0, .int .i64 0, .int .i64 0, .int .i64 0, .int .i64 0, .int .i64 0] 47)).alloc (.cells #[.bool false] 102))) := by
    show CK _ _ _ _ _ _ _ _
    refine ⟨by (repeat' first | exact Below.refl _ _ | apply bl_alloc | apply bl_drewN | apply bl_drew | refine bl_trans ?_ (by assumption) | refine bl_set ?_ (by first | omega | (simp <;> omega)) _), by omega, by omega, by omega, by omega, by omega, by simp, by simp [go_sem], by simp [go_sem], (Room.new' (by simp) rfl).alloc (by simp) _, fun e he => ?_⟩
    rcases List.mem_cons.1 he with rfl | he
    · exact ⟨by show w.heap.size < _; omega, ⟨by show w.heap.size ≠ _; omega, by show w.heap.size ≠ _; omega⟩, (((BoxAt.new _ _ _ _ _ (src4 m)).alloc (by simp) _).alloc (by simp) _).alloc (by simp) _⟩
    · obtain rfl := List.mem_singleton.1 he
      exact ⟨by show w.heap.size + 1 < _; omega, ⟨by show w.heap.size + 1 ≠ _; omega, by show w.heap.size + 1 ≠ _; omega⟩, ((BoxAt.new' (by simp) (srcJ x)).alloc (by simp) _).alloc (by simp) _⟩
  go_enter Tryd.func60, Tryd.ntmps60
  go_wp2_with fail
  refine (imatvalid_any m _).mono ?_
  rintro e w1 ⟨rfl, hb⟩
  rw [hm]
  have K0 := Lib.hid (K0.out.next hb)
  have hB1 := K0.out.hB
  have hc1 := (K0.out.box (w.heap.size + 1, 2, j2k x) (by simp)).2.2.j6
  clear hb
  go_wp2_with fail
  refine (ijv_any x _).mono ?_
  rintro e w2 ⟨rfl, hb⟩
  have K0 := Lib.hid (K0.out.next hb)
  clear hb hc1
  go_wp2_with fail
  refine (need_any (w.heap.size + 1 + 1 + 1) false (jv x) w2 (by have := K0.out.hB; omega) K0.out.cell K0.out.free).mono ?_
  rintro e w3 ho
  obtain ⟨rfl, hs⟩ := ho.fn
  have K0 := Lib.hid (K0.out.sm hs)
  have hB3 := K0.out.hB
  clear hs ho
  obtain ⟨V, hV⟩ : ∃ V, V = w3.alloc (.cells #[.pointer (some ⟨w.heap.size + 1 + 1 + 1, 0, none⟩)] 100) := ⟨_, rfl⟩
  have hVz : V.heap.size = w3.heap.size + 1 := by rw [hV]; simp
  have K0 : Hid (CK w (w.heap.size + 1 + 1 + 1) (w.heap.size + 1 + 1) 2 (false || !(jv x)) V.heap.size [(w.heap.size, 4, m.get), (w.heap.size + 1, 2, j2k x)] V) := by
    show CK _ _ _ _ _ _ _ _
    rw [hV]
    exact (K0.out.alloc _).grow (by simp; omega) (Nat.le_refl _)
  have sb0 : Hid (V.cell? ⟨w3.heap.size, 0, none⟩ = some (.pointer (some ⟨w.heap.size + 1 + 1 + 1, 0, none⟩))) := by show _ = _; rw [hV]; simp [go_sem]
  go_wp2
  rw [← hV]
  clear hV
  have K0 : Hid (CK w (w.heap.size + 1 + 1 + 1) (w.heap.size + 1 + 1) 2 (false || !(jv x)) V.heap.size [(w.heap.size, 4, m.get), (w.heap.size + 1, 2, j2k x)] V.drew) := K0.out.drew
  have sb0 : Hid (V.drew.cell? ⟨w3.heap.size, 0, none⟩ = some (.pointer (some ⟨w.heap.size + 1 + 1 + 1, 0, none⟩))) := sb0.out
  have hA : (w.heap.size, 4, m.get) ∈ [(w.heap.size, 4, m.get), (w.heap.size + 1, 2, j2k x)] := by simp
  have hX : (w.heap.size + 1, 2, j2k x) ∈ [(w.heap.size, 4, m.get), (w.heap.size + 1, 2, j2k x)] := by simp
  have hOb : w3.heap.size < V.heap.size := by omega
  have hOP : w3.heap.size ≠ w.heap.size + 1 + 1 + 1 := by omega
  have he : (((((((false || !(jv x)) || !(fTimes (m.get 0) x.x).2) || !(fTimes (m.get 1) x.y).2) || !(fAdd (fTimes (m.get 0) x.x).1 (fTimes (m.get 1) x.y).1).2) || !(fTimes (m.get 2) x.x).2) || !(fTimes (m.get 3) x.y).2) || !(fAdd (fTimes (m.get 2) x.x).1 (fTimes (m.get 3) x.y).1).2) = !(mApI m x).2 := by have := (gt_end j2z (((((((false || !(all4 vld m && jv x)) || !(fTimes (m.get 0) x.x).2) || !(fTimes (m.get 1) x.y).2) || !(fAdd (fTimes (m.get 0) x.x).1 (fTimes (m.get 1) x.y).1).2) || !(fTimes (m.get 2) x.x).2) || !(fTimes (m.get 3) x.y).2) || !(fAdd (fTimes (m.get 2) x.x).1 (fTimes (m.get 3) x.y).1).2) ⟨(fAdd (fTimes (m.get 0) x.x).1 (fTimes (m.get 1) x.y).1).1, (fAdd (fTimes (m.get 2) x.x).1 (fTimes (m.get 3) x.y).1).1⟩).1; rw [hm] at this; simp only [Bool.true_and] at this; rw [this]; unfold mApI; rw [hm]; simp only [Bool.true_and]
  have hx : (mApI m x).2 = true → (⟨(fAdd (fTimes (m.get 0) x.x).1 (fTimes (m.get 1) x.y).1).1, (fAdd (fTimes (m.get 2) x.x).1 (fTimes (m.get 3) x.y).1).1⟩ : J2) = (mApI m x).1 := (gt_end _ _ _).2
  have hno : (mApI m x).2 = false → mApI m x = (j2z, false) := gt_no
  cases hg : (mApI m x).2
  · have HE : Hid ((((((((false || !(jv x)) || !(fTimes (m.get 0) x.x).2) || !(fTimes (m.get 1) x.y).2) || !(fAdd (fTimes (m.get 0) x.x).1 (fTimes (m.get 1) x.y).1).2) || !(fTimes (m.get 2) x.x).2) || !(fTimes (m.get 3) x.y).2) || !(fAdd (fTimes (m.get 2) x.x).1 (fTimes (m.get 3) x.y).1).2) = true) := by show _ = _; rw [he, hg]; rfl
    have HG := Lib.hid (hno hg)
    clear he hx hno hg
    go_region_held3 (fun w' => w'.cell? ⟨w3.heap.size, 0, none⟩ = some (.pointer (some ⟨w.heap.size + 1 + 1 + 1, 0, none⟩))) (((try dsimp only); (repeat' first | (with_reducible exact sb3.out) | (with_reducible exact sb2.out) | (with_reducible exact sb1.out) | (with_reducible exact sb0.out) | (with_reducible refine (World.cell?_setCell_far _ _ _ _ ?_).trans ?_; (focus (show w.heap.size + 1 + 1 ≠ w3.heap.size; omega)))))) (first | ((have hneed := K1.out; clear hneed); go_at_call 114; (with_reducible refine Calls.mono (row1_any (m := m) (x := x) hA hX hOb hOP K1.out sb1.out) ?_); rintro e w6 ⟨rfl, hK, hc, hz⟩; have K2 := Lib.hid hK; have sb2 := Lib.hid hc; have hz2 := hz; clear hK hc hz) | (go_at_call 114; (with_reducible refine Calls.mono (row0_any (m := m) (x := x) hA hX hOb hOP K0.out sb0.out) ?_); rintro e w5 ⟨rfl, hK, hc, hz⟩; have K1 := Lib.hid hK; have sb1 := Lib.hid hc; have hz1 := hz; (try simp at hz1); clear hK hc hz) | (go_at_call 78; (with_reducible refine (gotJones_no (w.heap.size + 1 + 1 + 1) ⟨(fAdd (fTimes (m.get 0) x.x).1 (fTimes (m.get 1) x.y).1).1, (fAdd (fTimes (m.get 2) x.x).1 (fTimes (m.get 3) x.y).1).1⟩ _ (Nat.lt_of_lt_of_le K2.out.hP K2.out.hB) (K2.out.cell.trans (congrArg (fun x => some (Value.bool x)) HE.out))).mono ?_); rintro e w7 ⟨rfl, hb⟩; have K3 := Lib.hid (K2.out.next hb); have sb3 := Lib.hid ((hb.cell (p := ⟨w3.heap.size, 0, none⟩) (by show w3.heap.size < _; omega)).trans sb2.out); obtain ⟨yq0, eq0⟩ := Option.isSome_iff_exists.1 (K3.out.room 0 (by omega)).1; have fq0 := (K3.out.room 0 (by omega)).2; obtain ⟨yq1, eq1⟩ := Option.isSome_iff_exists.1 (K3.out.room 1 (by omega)).1; have fq1 := (K3.out.room 1 (by omega)).2; obtain ⟨yq2, eq2⟩ := Option.isSome_iff_exists.1 (K3.out.room 2 (by omega)).1; have fq2 := (K3.out.room 2 (by omega)).2; obtain ⟨yq3, eq3⟩ := Option.isSome_iff_exists.1 (K3.out.room 3 (by omega)).1; have fq3 := (K3.out.room 3 (by omega)).2; obtain ⟨yq4, eq4⟩ := Option.isSome_iff_exists.1 (K3.out.room 4 (by omega)).1; have fq4 := (K3.out.room 4 (by omega)).2; obtain ⟨yq5, eq5⟩ := Option.isSome_iff_exists.1 (K3.out.room 5 (by omega)).1; have fq5 := (K3.out.room 5 (by omega)).2; clear hb))
    go_wp2
    refine bodyPost_ret (v := .tuple #[.agg #[.int .i64 0, .int .i64 0, .int .i64 0, .int .i64 0, .int .i64 0, .int .i64 0], .bool false]) (by simp [results, Tryd.results60, go_sem, *]) rfl (J2Out.no HG.out ?_)
    exact (((((K3.out.setR _).setR _).setR _).setR _).setR _).setR _ |>.below
  · have HE : Hid ((((((((false || !(jv x)) || !(fTimes (m.get 0) x.x).2) || !(fTimes (m.get 1) x.y).2) || !(fAdd (fTimes (m.get 0) x.x).1 (fTimes (m.get 1) x.y).1).2) || !(fTimes (m.get 2) x.x).2) || !(fTimes (m.get 3) x.y).2) || !(fAdd (fTimes (m.get 2) x.x).1 (fTimes (m.get 3) x.y).1).2) = false) := by show _ = _; rw [he, hg]; rfl
    have HV := Lib.hid (hx hg)
    have HG := Lib.hid hg
    clear he hx hno hg
    go_region_held3 (fun w' => w'.cell? ⟨w3.heap.size, 0, none⟩ = some (.pointer (some ⟨w.heap.size + 1 + 1 + 1, 0, none⟩))) (((try dsimp only); (repeat' first | (with_reducible exact sb3.out) | (with_reducible exact sb2.out) | (with_reducible exact sb1.out) | (with_reducible exact sb0.out) | (with_reducible refine (World.cell?_setCell_far _ _ _ _ ?_).trans ?_; (focus (show w.heap.size + 1 + 1 ≠ w3.heap.size; omega)))))) (first | ((have hneed := K1.out; clear hneed); go_at_call 114; (with_reducible refine Calls.mono (row1_any (m := m) (x := x) hA hX hOb hOP K1.out sb1.out) ?_); rintro e w6 ⟨rfl, hK, hc, hz⟩; have K2 := Lib.hid hK; have sb2 := Lib.hid hc; have hz2 := hz; clear hK hc hz) | (go_at_call 114; (with_reducible refine Calls.mono (row0_any (m := m) (x := x) hA hX hOb hOP K0.out sb0.out) ?_); rintro e w5 ⟨rfl, hK, hc, hz⟩; have K1 := Lib.hid hK; have sb1 := Lib.hid hc; have hz1 := hz; (try simp at hz1); clear hK hc hz) | (go_at_call 78; (with_reducible refine (gotJones_yes (w.heap.size + 1 + 1 + 1) ⟨(fAdd (fTimes (m.get 0) x.x).1 (fTimes (m.get 1) x.y).1).1, (fAdd (fTimes (m.get 2) x.x).1 (fTimes (m.get 3) x.y).1).1⟩ _ (Nat.lt_of_lt_of_le K2.out.hP K2.out.hB) (K2.out.cell.trans (congrArg (fun x => some (Value.bool x)) HE.out))).mono ?_); rintro e w7 ⟨rfl, hb⟩; have K3 := Lib.hid (K2.out.next hb); have sb3 := Lib.hid ((hb.cell (p := ⟨w3.heap.size, 0, none⟩) (by show w3.heap.size < _; omega)).trans sb2.out); obtain ⟨yq0, eq0⟩ := Option.isSome_iff_exists.1 (K3.out.room 0 (by omega)).1; have fq0 := (K3.out.room 0 (by omega)).2; obtain ⟨yq1, eq1⟩ := Option.isSome_iff_exists.1 (K3.out.room 1 (by omega)).1; have fq1 := (K3.out.room 1 (by omega)).2; obtain ⟨yq2, eq2⟩ := Option.isSome_iff_exists.1 (K3.out.room 2 (by omega)).1; have fq2 := (K3.out.room 2 (by omega)).2; obtain ⟨yq3, eq3⟩ := Option.isSome_iff_exists.1 (K3.out.room 3 (by omega)).1; have fq3 := (K3.out.room 3 (by omega)).2; obtain ⟨yq4, eq4⟩ := Option.isSome_iff_exists.1 (K3.out.room 4 (by omega)).1; have fq4 := (K3.out.room 4 (by omega)).2; obtain ⟨yq5, eq5⟩ := Option.isSome_iff_exists.1 (K3.out.room 5 (by omega)).1; have fq5 := (K3.out.room 5 (by omega)).2; clear hb))
    go_wp2
    refine bodyPost_ret (v := .tuple #[.agg #[.int .i64 (fAdd (fTimes (m.get 0) x.x).1 (fTimes (m.get 1) x.y).1).1.re, .int .i64 (fAdd (fTimes (m.get 0) x.x).1 (fTimes (m.get 1) x.y).1).1.im, .int .i64 (fAdd (fTimes (m.get 0) x.x).1 (fTimes (m.get 1) x.y).1).1.den, .int .i64 (fAdd (fTimes (m.get 2) x.x).1 (fTimes (m.get 3) x.y).1).1.re, .int .i64 (fAdd (fTimes (m.get 2) x.x).1 (fTimes (m.get 3) x.y).1).1.im, .int .i64 (fAdd (fTimes (m.get 2) x.x).1 (fTimes (m.get 3) x.y).1).1.den], .bool true]) (by simp [results, Tryd.results60, go_sem, *]) rfl (J2Out.yes (f := ⟨(fAdd (fTimes (m.get 0) x.x).1 (fTimes (m.get 1) x.y).1).1, (fAdd (fTimes (m.get 2) x.x).1 (fTimes (m.get 3) x.y).1).1⟩) HG.out HV.out ?_)
    exact (((((K3.out.setR _).setR _).setR _).setR _).setR _).setR _ |>.below
set_option maxRecDepth 100000 in
set_option maxHeartbeats 40000000 in
theorem imap_no (m : M4) (x : J2) (hm : all4 vld m = false) (w : World) : Calls Tryd.prog 60 #[.agg #[.int .i64 m.a.re, .int .i64 m.a.im, .int .i64 m.a.den, .int .i64 m.b.re, .int .i64 m.b.im, .int .i64 m.b.den, .int .i64 m.c.re, .int .i64 m.c.im, .int .i64 m.c.den, .int .i64 m.d.re, .int .i64 m.d.im, .int .i64 m.d.den], .agg #[.int .i64 x.x.re, .int .i64 x.x.im, .int .i64 x.x.den, .int .i64 x.y.re, .int .i64 x.y.im, .int .i64 x.y.den]] w (J2Out (mApI m x) w) := by
  have hmf : ∀ (fn : Fn) (first cap : Array Value) (w : World), (Instr.makeFunc fn first cap).run Tryd.prog w = .ok (.func fn first cap) w := fun _ _ _ _ => rfl
  have K0 : Hid (CK w (w.heap.size + 1 + 1 + 1) (w.heap.size + 1 + 1) 2 false (w.heap.size + 1 + 1 + 1 + 1) [(w.heap.size, 4, m.get), (w.heap.size + 1, 2, j2k x)] ((((w.alloc (.cells #[.int .i64 m.a.re, .int .i64 m.a.im, .int .i64 m.a.den, .int .i64 m.b.re, .int .i64 m.b.im, .int .i64 m.b.den, .int .i64 m.c.re, .int .i64 m.c.im, .int .i64 m.c.den, .int .i64 m.d.re, .int .i64 m.d.im, .int .i64 m.d.den] 41)).alloc (.cells #[.int .i64 x.x.re, .int .i64 x.x.im, .int .i64 x.x.den, .int .i64 x.y.re, .int .i64 x.y.im, .int .i64 x.y.den] 47)).alloc (.cells #[.int .i64 0, .int .i64 0, .int .i64 0, .int .i64 0, .int .i64 0, .int .i64 0] 47)).alloc (.cells #[.bool false] 102))) := by
    show CK _ _ _ _ _ _ _ _
    refine ⟨by (repeat' first | exact Below.refl _ _ | apply bl_alloc | apply bl_drewN | apply bl_drew | refine bl_trans ?_ (by assumption) | refine bl_set ?_ (by first | omega | (simp <;> omega)) _), by omega, by omega, by omega, by omega, by omega, by simp, by simp [go_sem], by simp [go_sem], (Room.new' (by simp) rfl).alloc (by simp) _, fun e he => ?_⟩
    rcases List.mem_cons.1 he with rfl | he
    · exact ⟨by show w.heap.size < _; omega, ⟨by show w.heap.size ≠ _; omega, by show w.heap.size ≠ _; omega⟩, (((BoxAt.new _ _ _ _ _ (src4 m)).alloc (by simp) _).alloc (by simp) _).alloc (by simp) _⟩
    · obtain rfl := List.mem_singleton.1 he
      exact ⟨by show w.heap.size + 1 < _; omega, ⟨by show w.heap.size + 1 ≠ _; omega, by show w.heap.size + 1 ≠ _; omega⟩, ((BoxAt.new' (by simp) (srcJ x)).alloc (by simp) _).alloc (by simp) _⟩
  go_enter Tryd.func60, Tryd.ntmps60
  go_wp2_with fail
  refine (imatvalid_any m _).mono ?_
  rintro e w1 ⟨rfl, hb⟩
  rw [hm]
  have K0 := Lib.hid (K0.out.next hb)
  have hB1 := K0.out.hB
  have hc1 := (K0.out.box (w.heap.size + 1, 2, j2k x) (by simp)).2.2.j6
  clear hb
  clear hc1
  go_wp2_with fail
  refine (need_any (w.heap.size + 1 + 1 + 1) false false w1 (by have := K0.out.hB; omega) K0.out.cell K0.out.free).mono ?_
  rintro e w3 ho
  obtain ⟨rfl, hs⟩ := ho.fn
  have K0 := Lib.hid (K0.out.sm hs)
  have hB3 := K0.out.hB
  clear hs ho
  obtain ⟨V, hV⟩ : ∃ V, V = w3.alloc (.cells #[.pointer (some ⟨w.heap.size + 1 + 1 + 1, 0, none⟩)] 100) := ⟨_, rfl⟩
  have hVz : V.heap.size = w3.heap.size + 1 := by rw [hV]; simp
  have K0 : Hid (CK w (w.heap.size + 1 + 1 + 1) (w.heap.size + 1 + 1) 2 (false || !false) V.heap.size [(w.heap.size, 4, m.get), (w.heap.size + 1, 2, j2k x)] V) := by
    show CK _ _ _ _ _ _ _ _
    rw [hV]
    exact (K0.out.alloc _).grow (by simp; omega) (Nat.le_refl _)
  have sb0 : Hid (V.cell? ⟨w3.heap.size, 0, none⟩ = some (.pointer (some ⟨w.heap.size + 1 + 1 + 1, 0, none⟩))) := by show _ = _; rw [hV]; simp [go_sem]
  go_wp2
  rw [← hV]
  clear hV
  have K0 : Hid (CK w (w.heap.size + 1 + 1 + 1) (w.heap.size + 1 + 1) 2 (false || !false) V.heap.size [(w.heap.size, 4, m.get), (w.heap.size + 1, 2, j2k x)] V.drew) := K0.out.drew
  have sb0 : Hid (V.drew.cell? ⟨w3.heap.size, 0, none⟩ = some (.pointer (some ⟨w.heap.size + 1 + 1 + 1, 0, none⟩))) := sb0.out
  have hA : (w.heap.size, 4, m.get) ∈ [(w.heap.size, 4, m.get), (w.heap.size + 1, 2, j2k x)] := by simp
  have hX : (w.heap.size + 1, 2, j2k x) ∈ [(w.heap.size, 4, m.get), (w.heap.size + 1, 2, j2k x)] := by simp
  have hOb : w3.heap.size < V.heap.size := by omega
  have hOP : w3.heap.size ≠ w.heap.size + 1 + 1 + 1 := by omega
  have he : (((((((false || !false) || !(fTimes (m.get 0) x.x).2) || !(fTimes (m.get 1) x.y).2) || !(fAdd (fTimes (m.get 0) x.x).1 (fTimes (m.get 1) x.y).1).2) || !(fTimes (m.get 2) x.x).2) || !(fTimes (m.get 3) x.y).2) || !(fAdd (fTimes (m.get 2) x.x).1 (fTimes (m.get 3) x.y).1).2) = !(mApI m x).2 := by have := (gt_end j2z (((((((false || !(all4 vld m && jv x)) || !(fTimes (m.get 0) x.x).2) || !(fTimes (m.get 1) x.y).2) || !(fAdd (fTimes (m.get 0) x.x).1 (fTimes (m.get 1) x.y).1).2) || !(fTimes (m.get 2) x.x).2) || !(fTimes (m.get 3) x.y).2) || !(fAdd (fTimes (m.get 2) x.x).1 (fTimes (m.get 3) x.y).1).2) ⟨(fAdd (fTimes (m.get 0) x.x).1 (fTimes (m.get 1) x.y).1).1, (fAdd (fTimes (m.get 2) x.x).1 (fTimes (m.get 3) x.y).1).1⟩).1; rw [hm] at this; simp only [Bool.false_and] at this; rw [this]; unfold mApI; rw [hm]; simp only [Bool.false_and]
  have hx : (mApI m x).2 = true → (⟨(fAdd (fTimes (m.get 0) x.x).1 (fTimes (m.get 1) x.y).1).1, (fAdd (fTimes (m.get 2) x.x).1 (fTimes (m.get 3) x.y).1).1⟩ : J2) = (mApI m x).1 := (gt_end _ _ _).2
  have hno : (mApI m x).2 = false → mApI m x = (j2z, false) := gt_no
  have hg : (mApI m x).2 = false := by
    have h1 := he
    simp at h1
    exact h1
  have HE : Hid ((((((((false || !false) || !(fTimes (m.get 0) x.x).2) || !(fTimes (m.get 1) x.y).2) || !(fAdd (fTimes (m.get 0) x.x).1 (fTimes (m.get 1) x.y).1).2) || !(fTimes (m.get 2) x.x).2) || !(fTimes (m.get 3) x.y).2) || !(fAdd (fTimes (m.get 2) x.x).1 (fTimes (m.get 3) x.y).1).2) = true) := by show _ = _; rw [he, hg]; rfl
  have HG := Lib.hid (hno hg)
  clear he hx hno hg
  go_region_held3 (fun w' => w'.cell? ⟨w3.heap.size, 0, none⟩ = some (.pointer (some ⟨w.heap.size + 1 + 1 + 1, 0, none⟩))) (((try dsimp only); (repeat' first | (with_reducible exact sb3.out) | (with_reducible exact sb2.out) | (with_reducible exact sb1.out) | (with_reducible exact sb0.out) | (with_reducible refine (World.cell?_setCell_far _ _ _ _ ?_).trans ?_; (focus (show w.heap.size + 1 + 1 ≠ w3.heap.size; omega)))))) (first | ((have hneed := K1.out; clear hneed); go_at_call 114; (with_reducible refine Calls.mono (row1_any (m := m) (x := x) hA hX hOb hOP K1.out sb1.out) ?_); rintro e w6 ⟨rfl, hK, hc, hz⟩; have K2 := Lib.hid hK; have sb2 := Lib.hid hc; have hz2 := hz; clear hK hc hz) | (go_at_call 114; (with_reducible refine Calls.mono (row0_any (m := m) (x := x) hA hX hOb hOP K0.out sb0.out) ?_); rintro e w5 ⟨rfl, hK, hc, hz⟩; have K1 := Lib.hid hK; have sb1 := Lib.hid hc; have hz1 := hz; (try simp at hz1); clear hK hc hz) | (go_at_call 78; (with_reducible refine (gotJones_no (w.heap.size + 1 + 1 + 1) ⟨(fAdd (fTimes (m.get 0) x.x).1 (fTimes (m.get 1) x.y).1).1, (fAdd (fTimes (m.get 2) x.x).1 (fTimes (m.get 3) x.y).1).1⟩ _ (Nat.lt_of_lt_of_le K2.out.hP K2.out.hB) (K2.out.cell.trans (congrArg (fun x => some (Value.bool x)) HE.out))).mono ?_); rintro e w7 ⟨rfl, hb⟩; have K3 := Lib.hid (K2.out.next hb); have sb3 := Lib.hid ((hb.cell (p := ⟨w3.heap.size, 0, none⟩) (by show w3.heap.size < _; omega)).trans sb2.out); obtain ⟨yq0, eq0⟩ := Option.isSome_iff_exists.1 (K3.out.room 0 (by omega)).1; have fq0 := (K3.out.room 0 (by omega)).2; obtain ⟨yq1, eq1⟩ := Option.isSome_iff_exists.1 (K3.out.room 1 (by omega)).1; have fq1 := (K3.out.room 1 (by omega)).2; obtain ⟨yq2, eq2⟩ := Option.isSome_iff_exists.1 (K3.out.room 2 (by omega)).1; have fq2 := (K3.out.room 2 (by omega)).2; obtain ⟨yq3, eq3⟩ := Option.isSome_iff_exists.1 (K3.out.room 3 (by omega)).1; have fq3 := (K3.out.room 3 (by omega)).2; obtain ⟨yq4, eq4⟩ := Option.isSome_iff_exists.1 (K3.out.room 4 (by omega)).1; have fq4 := (K3.out.room 4 (by omega)).2; obtain ⟨yq5, eq5⟩ := Option.isSome_iff_exists.1 (K3.out.room 5 (by omega)).1; have fq5 := (K3.out.room 5 (by omega)).2; clear hb))
  go_wp2
  refine bodyPost_ret (v := .tuple #[.agg #[.int .i64 0, .int .i64 0, .int .i64 0, .int .i64 0, .int .i64 0, .int .i64 0], .bool false]) (by simp [results, Tryd.results60, go_sem, *]) rfl (J2Out.no HG.out ?_)
  exact (((((K3.out.setR _).setR _).setR _).setR _).setR _).setR _ |>.below
theorem imap (m : M4) (x : J2) (w : World) : Calls Tryd.prog 60 #[.agg #[.int .i64 m.a.re, .int .i64 m.a.im, .int .i64 m.a.den, .int .i64 m.b.re, .int .i64 m.b.im, .int .i64 m.b.den, .int .i64 m.c.re, .int .i64 m.c.im, .int .i64 m.c.den, .int .i64 m.d.re, .int .i64 m.d.im, .int .i64 m.d.den], .agg #[.int .i64 x.x.re, .int .i64 x.x.im, .int .i64 x.x.den, .int .i64 x.y.re, .int .i64 x.y.im, .int .i64 x.y.den]] w (J2Out (mApI m x) w) := by
  cases hm : all4 vld m
  · exact imap_no m x hm w
  · exact imap_any m x hm w
end Go.Proofs.YtmcokdiopcpifaaDoor
