/- Contracts: draws of matrices and directions. -/
import Derived.Test.YtmcokdiopcpifaaDoorMsG3
import Derived.Test.YtmcokdiopcpifaaDoorMsMP
import Derived.Test.YtmcokdiopcpifaaDoorMsZ2
set_option maxRecDepth 100000
namespace Go.Proofs.YtmcokdiopcpifaaDoor
open Go.RowKit Pol
theorem Own.sets {R : Nat} {w : World} (b : Nat) : ∀ (vs : List Value) (o : Nat) {w1 : World}, Own R w w1 → w.heap.size ≤ b → Own R w (w1.setCells b o vs)
  | [], _, _, h, _ => h
  | v :: vs, o, _, h, hb => Own.sets b vs (o + 1) (h.setNew hb v) hb
theorem Rd.puts {N R : Nat} {a0 : Option Addr} {len cap k : Nat} (b : Nat) : ∀ (vs : List Value) (o : Nat) {w : World}, Rd N R a0 len cap k w → R < b → Rd N R a0 len cap k (w.setCells b o vs)
  | [], _, _, h, _ => h
  | v :: vs, o, _, h, hb => Rd.puts b vs (o + 1) (h.put hb v) hb
theorem Room.sets {X n : Nat} (b : Nat) : ∀ (vs : List Value) (o : Nat) {w : World}, Room w X n → Room (w.setCells b o vs) X n
  | [], _, _, h => h
  | v :: vs, o, _, h => Room.sets b vs (o + 1) (h.set ⟨b, o, none⟩ v)
theorem sets_size (g : Nat) : ∀ (vs : List Value) (o : Nat) (w : World), (w.setCells g o vs).heap.size = w.heap.size
  | [], _, _ => rfl
  | _ :: vs, o, _ => (sets_size g vs (o + 1) _).trans (World.size_setCell _ _ _)
/-- The loop that draws the four. -/
structure MRel (N R : Nat) (a0 : Option Addr) (len cap kk O : Nat) (w : World) (i : Nat) (wr : World) : Prop where
  le : i ≤ 4
  own : Own R w wr
  rd : Rd N R a0 len cap (kk + 20 * i) wr
  lo : w.heap.size < O
  hi : O < wr.heap.size
  res : Room wr w.heap.size 4
  room : Room wr O 4
  box : ∃ g : Nat → Fr, BoxAt wr O g i
theorem MRel.step {N R : Nat} {a0 : Option Addr} {len cap kk O : Nat} {w wr w1 : World} {i : Nat} (h : MRel N R a0 len cap kk O w i wr) (h4 : i < 4) (hR : R < w.heap.size) (hO : Own R wr w1) (hd : Rd N R a0 len cap (kk + 20 * i + 20) w1) (f : Fr) :
    MRel N R a0 len cap kk O w (i + 1) (putF w1 O i f) := by
  have h1 := h.lo
  have h2 := h.hi
  have h3 := hO.size
  have h5 := h.own.size
  obtain ⟨g, hg⟩ := h.box
  have hg1 := hg.own hO h2 (by omega)
  have hr1 := h.room.own hO h2 (by omega)
  refine ⟨by omega, (((h.own.trans hO).setNew (by omega) _).setNew (by omega) _).setNew (by omega) _, (((hd.mono (by omega)).put (by omega) _).put (by omega) _).put (by omega) _, h1, by rw [putF_size]; omega, (h.res.own hO (by omega) (by omega)).put _ _ _, hr1.put _ _ _, ⟨fun j => if j = i then f else g j, ?_⟩⟩
  have hb : BoxAt w1 O (fun j => if j = i then f else g j) i := fun j hj => by
    show _ ∧ _
    simp only [if_neg (show ¬ j = i by omega)]
    exact hg1 j hj
  have := hb.put hr1 h4
  simpa using this
def MR (N R : Nat) (a0 : Option Addr) (len cap kk O : Nat) (w : World) (v : Value) (wr : World) : Prop := ∃ i : Nat, v = .int .i64 i ∧ MRel N R a0 len cap kk O w i wr
def m4h (g : Nat → Fr) : M4 := ⟨g 0, g 1, g 2, g 3⟩
theorem m4h_get (g : Nat → Fr) {k : Nat} (hk : k < 4) : (m4h g).get k = g k := by
  have : k = 0 ∨ k = 1 ∨ k = 2 ∨ k = 3 := by omega
  rcases this with rfl | rfl | rfl | rfl <;> rfl
theorem l91Frac_20 {N R : Nat} {a0 : Option Addr} {len cap k : Nat} {w : World} (hk : k ≤ 90000) (h : Rd N R a0 len cap k w) :
    Calls Tryd.prog 84 #[.pointer (some ⟨R, 0, none⟩)] w (RdOut FrP N R a0 len cap (k + 20) w) :=
  (l91Frac_any hk h).mono fun _ _ ⟨v, h1, h2, h3, h4⟩ => ⟨v, h1, h2, h3, h4.mono (by omega)⟩
def DirP (v : Value) : Prop := ∃ p q : Int, v = .tuple #[.int .i64 p, .int .i64 q]
def OpenOut (N : Nat) (a0 : Option Addr) (cap : Nat) (w : World) (e : Ending) (w' : World) : Prop := ∃ R len', e = .returned (.pointer (some ⟨R, 0, none⟩)) ∧ Below w.heap.size w w' ∧ w.heap.size ≤ R ∧ Rd N R a0 len' cap 0 w'
set_option maxHeartbeats 2000000 in
theorem open_any (N : Nat) (a0 : Option Addr) (len cap : Nat) (w : World) (hN : N ≤ w.heap.size) (hc : len ≤ cap) (HC : Code N w a0 len) :
    Calls Tryd.prog 82 #[.slice a0 len cap] w (OpenOut N a0 cap w) := by
  by_cases h : 2000 < len
  · obtain ⟨B, off, rfl, hB, -⟩ := HC 0 (by omega)
    have h1 : (2000 : Int) < (len : Int) := by omega
    have h2 : (2000 : Int) ≤ (cap : Int) := by omega
    have h3 : 2000 ≤ cap := by omega
    go_enter Tryd.func82, Tryd.ntmps82
    go_wp2
    go_ret
    refine ⟨w.heap.size, 2000, rfl, by (repeat' first | exact Below.refl _ _ | apply bl_alloc | apply bl_drewN | apply bl_drew | refine bl_trans ?_ (by assumption) | refine bl_set ?_ (by first | omega | (simp <;> omega)) _), Nat.le_refl _, ⟨by simp, hN, by simp [go_sem], ⟨0, by omega, by simp [go_sem]⟩, by simp [go_sem], by omega, ?_⟩⟩
    exact Code.keep (fun i hi => HC i (by omega)) fun B o hB => World.cell?_alloc_old _ _ _ (by show B ≠ w.heap.size; omega)
  · have h1 : ¬ (2000 : Int) < (len : Int) := by omega
    go_enter Tryd.func82, Tryd.ntmps82
    go_wp2
    go_ret
    refine ⟨w.heap.size, len, rfl, by (repeat' first | exact Below.refl _ _ | apply bl_alloc | apply bl_drewN | apply bl_drew | refine bl_trans ?_ (by assumption) | refine bl_set ?_ (by first | omega | (simp <;> omega)) _), Nat.le_refl _, ⟨by simp, hN, by simp [go_sem], ⟨0, by omega, by simp [go_sem]⟩, by simp [go_sem], by omega, ?_⟩⟩
    exact HC.keep fun B o hB => World.cell?_alloc_old _ _ _ (by show B ≠ w.heap.size; omega)
set_option maxRecDepth 100000 in
set_option maxHeartbeats 8000000 in
theorem l91Direction_any {N R : Nat} {a0 : Option Addr} {len cap k : Nat} {w : World} (hk : k ≤ 50000) (h : Rd N R a0 len cap k w) :
    Calls Tryd.prog 103 #[.pointer (some ⟨R, 0, none⟩)] w (RdOut DirP N R a0 len cap (k + 3) w) := by
  have hRl := h.lt
  have h0 := Lib.hid h; clear h
  have HO : Hid (Own R w w) := Own.refl _ _
  have HR := h0
  have hzz : w.heap.size ≤ w.heap.size := Nat.le_refl _
  go_enter Tryd.func103, Tryd.ntmps103
  go_wp2_with fail
  refine (pick_any 7 (by omega) (by omega) (by omega) HR.out).mono ?_
  rintro e w1 ⟨v, rfl, ⟨p, rfl, p0, p1⟩, hO, hR⟩
  have HO := Lib.hid (HO.out.trans hO)
  have HR := Lib.hid hR
  have hz1 := hO.size
  (try simp at hz1)
  clear hO hR
  have nR : R < w1.heap.size := HR.out.lt
  go_wp2_with fail
  refine (pick_any 7 (by omega) (by omega) (by omega) HR.out).mono ?_
  rintro e w2 ⟨v, rfl, ⟨q, rfl, q0, q1⟩, hO, hR⟩
  have HO := Lib.hid (HO.out.trans hO)
  have HR := Lib.hid hR
  have hz2 := hO.size
  (try simp at hz2)
  clear hO hR
  have nR : R < w2.heap.size := HR.out.lt
  go_wp2_with fail
  refine (pick_any 30 (by omega) (by omega) (by omega) HR.out).mono ?_
  rintro e w3 ⟨v, rfl, ⟨m, rfl, m0, m1⟩, hO, hR⟩
  have HO := Lib.hid (HO.out.trans hO)
  have HR := Lib.hid hR
  have hz3 := hO.size
  (try simp at hz3)
  clear hO hR
  have nR : R < w3.heap.size := HR.out.lt
  have HR := Lib.hid (HR.out.mono (show _ ≤ k + 3 by omega))
  by_cases hm : m = 0
  · subst hm
    go_wp2
    go_ret2
    exact ⟨_, rfl, ⟨101, q - 3, rfl⟩, (by (repeat' first | (with_reducible exact HO.out) | (with_reducible refine Own.alloc ?_ _) | (with_reducible refine Own.setNew ?_ (by first | omega | (simp <;> omega)) _) | (with_reducible refine Own.drewN ?_ _) | (with_reducible refine Own.drew ?_))), (by (repeat' first | (with_reducible exact HR.out) | (with_reducible refine Rd.alloc ?_ _) | (with_reducible refine Rd.put ?_ (by first | omega | (simp <;> omega)) _) | (with_reducible refine Rd.drewN ?_ _) | (with_reducible refine Rd.drew ?_)))⟩
  have qm : (m == 0) = false := by simpa using hm
  clear hm
  go_wp2
  go_ret2
  exact ⟨_, rfl, ⟨p - 3, q - 3, rfl⟩, (by (repeat' first | (with_reducible exact HO.out) | (with_reducible refine Own.alloc ?_ _) | (with_reducible refine Own.setNew ?_ (by first | omega | (simp <;> omega)) _) | (with_reducible refine Own.drewN ?_ _) | (with_reducible refine Own.drew ?_))), (by (repeat' first | (with_reducible exact HR.out) | (with_reducible refine Rd.alloc ?_ _) | (with_reducible refine Rd.put ?_ (by first | omega | (simp <;> omega)) _) | (with_reducible refine Rd.drewN ?_ _) | (with_reducible refine Rd.drew ?_)))⟩
set_option maxRecDepth 100000 in
set_option maxHeartbeats 40000000 in
theorem l91Mat_any {N R : Nat} {a0 : Option Addr} {len cap k : Nat} {w : World} (hk : k ≤ 40000) (h : Rd N R a0 len cap k w) :
    Calls Tryd.prog 112 #[.pointer (some ⟨R, 0, none⟩)] w (RdOut M4P N R a0 len cap (k + 100) w) := by
  have hRl := h.lt
  have h0 := Lib.hid h; clear h
  have HM0 : Hid (Room (w.alloc (.cells #[.int .i64 0, .int .i64 0, .int .i64 0, .int .i64 0, .int .i64 0, .int .i64 0, .int .i64 0, .int .i64 0, .int .i64 0, .int .i64 0, .int .i64 0, .int .i64 0] 41)) w.heap.size 4) := by show Room _ _ _; exact Room.new' rfl rfl
  have HO : Hid (Own R w (w.alloc (.cells #[.int .i64 0, .int .i64 0, .int .i64 0, .int .i64 0, .int .i64 0, .int .i64 0, .int .i64 0, .int .i64 0, .int .i64 0, .int .i64 0, .int .i64 0, .int .i64 0] 41))) := by show Own _ _ _; exact (Own.refl _ _).alloc _
  have HR := Lib.hid (h0.out.alloc (.cells #[.int .i64 0, .int .i64 0, .int .i64 0, .int .i64 0, .int .i64 0, .int .i64 0, .int .i64 0, .int .i64 0, .int .i64 0, .int .i64 0, .int .i64 0, .int .i64 0] 41))
  have hzz : w.heap.size ≤ w.heap.size := Nat.le_refl _
  go_enter Tryd.func112, Tryd.ntmps112
  go_wp2_with fail
  refine (l91Direction_any (by omega) HR.out).mono ?_
  rintro e w1 ⟨v, rfl, ⟨p, q, rfl⟩, hO, hR⟩
  have HM0 := Lib.hid (HM0.out.own hO (by first | omega | (simp <;> omega)) (by omega))
  have HO := Lib.hid (HO.out.trans hO)
  have HR := Lib.hid hR
  have hz1 := hO.size
  (try simp at hz1)
  clear hO hR
  have nA0 : w.heap.size < w1.heap.size := by omega
  have nB0 : ¬ w.heap.size = w1.heap.size := by omega
  have nC0 : ¬ w1.heap.size = w.heap.size := by omega
  have nR : R < w1.heap.size := HR.out.lt
  have HQ : Hid (Room (w1.alloc (.cells #[.int .i64 0, .int .i64 0, .int .i64 0, .int .i64 0, .int .i64 0, .int .i64 0, .int .i64 0, .int .i64 0, .int .i64 0, .int .i64 0, .int .i64 0, .int .i64 0] 41)) w1.heap.size 4) := by show Room _ _ _; exact Room.new' rfl rfl
  have HM0 := Lib.hid (HM0.out.alloc (by omega) (.cells #[.int .i64 0, .int .i64 0, .int .i64 0, .int .i64 0, .int .i64 0, .int .i64 0, .int .i64 0, .int .i64 0, .int .i64 0, .int .i64 0, .int .i64 0, .int .i64 0] 41))
  have HO := Lib.hid (HO.out.alloc (.cells #[.int .i64 0, .int .i64 0, .int .i64 0, .int .i64 0, .int .i64 0, .int .i64 0, .int .i64 0, .int .i64 0, .int .i64 0, .int .i64 0, .int .i64 0, .int .i64 0] 41))
  have HR := Lib.hid (HR.out.alloc (.cells #[.int .i64 0, .int .i64 0, .int .i64 0, .int .i64 0, .int .i64 0, .int .i64 0, .int .i64 0, .int .i64 0, .int .i64 0, .int .i64 0, .int .i64 0, .int .i64 0] 41))
  go_wp2_with fail
  refine (pick_any 4 (by omega) (by omega) (by omega) HR.out).mono ?_
  rintro e w2 ⟨v, rfl, ⟨m, rfl, m0, m1⟩, hO, hR⟩
  have HM0 := Lib.hid (HM0.out.own hO (by first | omega | (simp <;> omega)) (by omega))
  have HQ := Lib.hid (HQ.out.own hO (by first | omega | (simp <;> omega)) (by omega))
  have HO := Lib.hid (HO.out.trans hO)
  have HR := Lib.hid hR
  have hz2 := hO.size
  (try simp at hz2)
  clear hO hR
  have nA0 : w.heap.size < w2.heap.size := by omega
  have nB0 : ¬ w.heap.size = w2.heap.size := by omega
  have nC0 : ¬ w2.heap.size = w.heap.size := by omega
  have nA1 : w1.heap.size < w2.heap.size := by omega
  have nB1 : ¬ w1.heap.size = w2.heap.size := by omega
  have nC1 : ¬ w2.heap.size = w1.heap.size := by omega
  have nR : R < w2.heap.size := HR.out.lt
  by_cases hm : m = 0
  · subst hm
    go_wp2_with fail
    refine (srot_any p q _).mono ?_
    rintro e w3 ho
    obtain ⟨S, o1, hS⟩ : ∃ SS oo, gRot p q = (SS, oo) := ⟨_, _, rfl⟩
    rw [hS] at ho
    clear hS
    obtain ⟨rfl, hb⟩ : e = .returned (.tuple #[.agg #[.int .i64 S.a.re, .int .i64 S.a.im, .int .i64 S.a.den, .int .i64 S.b.re, .int .i64 S.b.im, .int .i64 S.b.den, .int .i64 S.c.re, .int .i64 S.c.im, .int .i64 S.c.den, .int .i64 S.d.re, .int .i64 S.d.im, .int .i64 S.d.den], .bool o1]) ∧ Below _ _ _ := ho.fn
    have HM0 := Lib.hid (HM0.out.below hb (by first | omega | (simp <;> omega)))
    have HQ := Lib.hid (HQ.out.below hb (by first | omega | (simp <;> omega)))
    have HO := Lib.hid (HO.out.below hb)
    have HR := Lib.hid (HR.out.next hb)
    have hz3 := hb.size
    (try simp at hz3)
    clear ho hb
    have nA0 : w.heap.size < w3.heap.size := by omega
    have nB0 : ¬ w.heap.size = w3.heap.size := by omega
    have nC0 : ¬ w3.heap.size = w.heap.size := by omega
    have nA1 : w1.heap.size < w3.heap.size := by omega
    have nB1 : ¬ w1.heap.size = w3.heap.size := by omega
    have nC1 : ¬ w3.heap.size = w1.heap.size := by omega
    have nR : R < w3.heap.size := HR.out.lt
    have HM0 := Lib.hid (HM0.out.sets (w1.heap.size) [.int .i64 S.a.re, .int .i64 S.a.im, .int .i64 S.a.den, .int .i64 S.b.re, .int .i64 S.b.im, .int .i64 S.b.den, .int .i64 S.c.re, .int .i64 S.c.im, .int .i64 S.c.den, .int .i64 S.d.re, .int .i64 S.d.im, .int .i64 S.d.den] 0)
    have HQS := Lib.hid (HQ.out.sets (w1.heap.size) [.int .i64 S.a.re, .int .i64 S.a.im, .int .i64 S.a.den, .int .i64 S.b.re, .int .i64 S.b.im, .int .i64 S.b.den, .int .i64 S.c.re, .int .i64 S.c.im, .int .i64 S.c.den, .int .i64 S.d.re, .int .i64 S.d.im, .int .i64 S.d.den] 0)
    have hth := HQ.out.there
    have HO := Lib.hid (HO.out.sets (w1.heap.size) [.int .i64 S.a.re, .int .i64 S.a.im, .int .i64 S.a.den, .int .i64 S.b.re, .int .i64 S.b.im, .int .i64 S.b.den, .int .i64 S.c.re, .int .i64 S.c.im, .int .i64 S.c.den, .int .i64 S.d.re, .int .i64 S.d.im, .int .i64 S.d.den] 0 (by omega))
    have HR := Lib.hid (HR.out.puts (w1.heap.size) [.int .i64 S.a.re, .int .i64 S.a.im, .int .i64 S.a.den, .int .i64 S.b.re, .int .i64 S.b.im, .int .i64 S.b.den, .int .i64 S.c.re, .int .i64 S.c.im, .int .i64 S.c.den, .int .i64 S.d.re, .int .i64 S.d.im, .int .i64 S.d.den] 0 (by omega))
    have hzs : (w3.setCells (w1.heap.size) 0 [.int .i64 S.a.re, .int .i64 S.a.im, .int .i64 S.a.den, .int .i64 S.b.re, .int .i64 S.b.im, .int .i64 S.b.den, .int .i64 S.c.re, .int .i64 S.c.im, .int .i64 S.c.den, .int .i64 S.d.re, .int .i64 S.d.im, .int .i64 S.d.den]).heap.size = w3.heap.size := sets_size _ _ _ _
    cases o1
    · skip
      go_wp2_with (first | ((with_reducible refine wpList_store_mid ?km11 41 ?km1x ?km1y ?km12 (w1.heap.size) 0 #[.int .i64 S.a.re, .int .i64 S.a.im, .int .i64 S.a.den, .int .i64 S.b.re, .int .i64 S.b.im, .int .i64 S.b.den, .int .i64 S.c.re, .int .i64 S.c.im, .int .i64 S.c.den, .int .i64 S.d.re, .int .i64 S.d.im, .int .i64 S.d.den] ?km13 ?km14 ?km15 ?km16 ?km17 ?km18); (case km12 => rfl); (case km11 => rfl); (case km13 => rfl); (case km14 => rfl); (case km15 => exact hth); (case km16 => kernel_rfl); (case km17 => exact (by simp [Value.oneCell']))))
      go_loopw [7] (fun v wr => MR N R a0 len cap (k + 5) w1.heap.size w v wr) (fun v _ => (4 - intOf v).toNat)
      case atStart => exact ⟨0, rfl, by omega, HO.out, HR.out.mono (by omega), by omega, by first | omega | (rw [hzs]; omega), HM0.out, HQS.out, fun _ => fz, fun k hk => absurd hk (by omega)⟩
      case round =>
        obtain ⟨i, rfl, hT⟩ := hrel
        clear HO HR HM0
        by_cases h4 : i < 4
        · have j0 : (0 : Int) ≤ (i : Int) := by omega
          have j1 : (i : Int) < 4 := by omega
          have HT := Lib.hid hT
          clear hT
          go_wp2_with fail
          refine (l91Frac_20 (by omega) HT.out.rd).mono ?_
          rintro e wv ⟨v, rfl, ⟨f, rfl⟩, hO, hR⟩
          have HS := Lib.hid (HT.out.step h4 hRl hO hR f)
          have hlo := HT.out.lo
          have hhi := HT.out.hi
          have hr := HT.out.room.own hO hhi (by omega)
          obtain ⟨v0, e0⟩ := Option.isSome_iff_exists.1 (hr (i * 3) (by omega)).1
          have f0 := (hr (i * 3) (by omega)).2
          obtain ⟨v1, e1⟩ := Option.isSome_iff_exists.1 (hr (i * 3 + 1) (by omega)).1
          have f1 := (hr (i * 3 + 1) (by omega)).2
          obtain ⟨v2, e2⟩ := Option.isSome_iff_exists.1 (hr (i * 3 + 2) (by omega)).1
          have f2 := (hr (i * 3 + 2) (by omega)).2
          clear hr hO hR HT
          go_wp2
          go_roundw
          case rel => exact ⟨i + 1, by go_num, HS.out⟩
          case measure => simp [intOf]; omega
        · obtain rfl : i = 4 := by have := hT.le; omega
          obtain ⟨gg, hg⟩ := hT.box
          have HX : Hid (BoxAt wr (w1.heap.size) (m4h gg).get 4) := fun j hj => by rw [m4h_get gg hj]; exact hg j hj
          have HM0 := Lib.hid hT.res
          have HO := Lib.hid hT.own
          have HR := Lib.hid hT.rd
          have hzw := hT.own.size
          clear hT hg
          have HR := Lib.hid (HR.out.mono (show _ ≤ k + 100 by omega))
          go_wp2_with (first | ((with_reducible refine wpList_load_mid ?km21 41 ?km2x ?km22 (w1.heap.size) 0 ?km23 (cl (m4h gg).get 4) ?km2d ?km24 ?km25 ?km26 ?km27 ?km28); (case km22 => rfl); (case km21 => rfl); (case km23 => rfl); (case km24 => exact (HX.out.range)); (case km25 => exact Tryd.underlying41); (case km26 => rfl); (case km27 => kernel_rfl)) | ((with_reducible refine wpList_store_mid ?km31 41 ?km3x ?km3y ?km32 (w.heap.size) 0 (cl (m4h gg).get 4).toArray ?km33 ?km34 ?km35 ?km36 ?km37 ?km38); (case km32 => rfl); (case km31 => rfl); (case km33 => rfl); (case km34 => rfl); (case km35 => exact (HM0.out.thereC _)); (case km36 => kernel_rfl); (case km37 => exact (cl_one _ _))))
          refine bodyPost_ret (v := .agg (cl (m4h gg).get 4).toArray) (results_cell_mid rfl _ _ (w.heap.size) (cl (m4h gg).get 4) _ (by rfl) (World.rangeAt_setCells_same _ _ _ _ (HM0.out.thereC _)) Tryd.underlying41 rfl (by kernel_rfl)) rfl ⟨_, rfl, ⟨(m4h gg), congrArg Value.agg (cl4 (m4h gg))⟩, ?_, ?_⟩
          · exact HO.out.sets _ _ _ (by omega)
          · exact HR.out.puts _ _ _ (by omega)
    · skip
      have HR := Lib.hid (HR.out.mono (show _ ≤ k + 100 by omega))
      have hr0 : ((w3.setCells (w1.heap.size) 0 [.int .i64 S.a.re, .int .i64 S.a.im, .int .i64 S.a.den, .int .i64 S.b.re, .int .i64 S.b.im, .int .i64 S.b.den, .int .i64 S.c.re, .int .i64 S.c.im, .int .i64 S.c.den, .int .i64 S.d.re, .int .i64 S.d.im, .int .i64 S.d.den])).rangeAt (w1.heap.size) 0 [.int .i64 S.a.re, .int .i64 S.a.im, .int .i64 S.a.den, .int .i64 S.b.re, .int .i64 S.b.im, .int .i64 S.b.den, .int .i64 S.c.re, .int .i64 S.c.im, .int .i64 S.c.den, .int .i64 S.d.re, .int .i64 S.d.im, .int .i64 S.d.den] := World.rangeAt_setCells_same _ _ _ _ hth
      have hth0 := HM0.out.there
      go_wp2_with (first | ((with_reducible refine wpList_store_mid ?km41 41 ?km4x ?km4y ?km42 (w1.heap.size) 0 #[.int .i64 S.a.re, .int .i64 S.a.im, .int .i64 S.a.den, .int .i64 S.b.re, .int .i64 S.b.im, .int .i64 S.b.den, .int .i64 S.c.re, .int .i64 S.c.im, .int .i64 S.c.den, .int .i64 S.d.re, .int .i64 S.d.im, .int .i64 S.d.den] ?km43 ?km44 ?km45 ?km46 ?km47 ?km48); (case km42 => rfl); (case km41 => rfl); (case km43 => rfl); (case km44 => rfl); (case km45 => exact hth); (case km46 => kernel_rfl); (case km47 => exact (by simp [Value.oneCell']))) | ((with_reducible refine wpList_load_mid ?km51 41 ?km5x ?km52 (w1.heap.size) 0 ?km53 [.int .i64 S.a.re, .int .i64 S.a.im, .int .i64 S.a.den, .int .i64 S.b.re, .int .i64 S.b.im, .int .i64 S.b.den, .int .i64 S.c.re, .int .i64 S.c.im, .int .i64 S.c.den, .int .i64 S.d.re, .int .i64 S.d.im, .int .i64 S.d.den] ?km5d ?km54 ?km55 ?km56 ?km57 ?km58); (case km52 => rfl); (case km51 => rfl); (case km53 => rfl); (case km54 => exact hr0); (case km55 => exact Tryd.underlying41); (case km56 => rfl); (case km57 => kernel_rfl)) | ((with_reducible refine wpList_store_mid ?km61 41 ?km6x ?km6y ?km62 (w.heap.size) 0 #[.int .i64 S.a.re, .int .i64 S.a.im, .int .i64 S.a.den, .int .i64 S.b.re, .int .i64 S.b.im, .int .i64 S.b.den, .int .i64 S.c.re, .int .i64 S.c.im, .int .i64 S.c.den, .int .i64 S.d.re, .int .i64 S.d.im, .int .i64 S.d.den] ?km63 ?km64 ?km65 ?km66 ?km67 ?km68); (case km62 => rfl); (case km61 => rfl); (case km63 => rfl); (case km64 => rfl); (case km65 => exact hth0); (case km66 => kernel_rfl); (case km67 => exact (by simp [Value.oneCell']))))
      refine bodyPost_ret (v := .agg #[.int .i64 S.a.re, .int .i64 S.a.im, .int .i64 S.a.den, .int .i64 S.b.re, .int .i64 S.b.im, .int .i64 S.b.den, .int .i64 S.c.re, .int .i64 S.c.im, .int .i64 S.c.den, .int .i64 S.d.re, .int .i64 S.d.im, .int .i64 S.d.den]) (results_cell_mid rfl _ _ (w.heap.size) [.int .i64 S.a.re, .int .i64 S.a.im, .int .i64 S.a.den, .int .i64 S.b.re, .int .i64 S.b.im, .int .i64 S.b.den, .int .i64 S.c.re, .int .i64 S.c.im, .int .i64 S.c.den, .int .i64 S.d.re, .int .i64 S.d.im, .int .i64 S.d.den] _ (by rfl) (World.rangeAt_setCells_same _ _ _ _ hth0) Tryd.underlying41 rfl (by kernel_rfl)) rfl ⟨_, rfl, ⟨S, rfl⟩, ?_, ?_⟩
      · exact HO.out.sets _ _ _ (by omega)
      · exact HR.out.puts _ _ _ (by omega)
  have qm0 : (m == 0) = false := by simpa using hm
  clear hm
  by_cases hm : m = 1
  · subst hm
    go_wp2_with fail
    refine (pick_any 4 (by omega) (by omega) (by omega) HR.out).mono ?_
    rintro e w3 ⟨v, rfl, ⟨z, rfl, z0, z1⟩, hO, hR⟩
    have HM0 := Lib.hid (HM0.out.own hO (by first | omega | (simp <;> omega)) (by omega))
    have HQ := Lib.hid (HQ.out.own hO (by first | omega | (simp <;> omega)) (by omega))
    have HO := Lib.hid (HO.out.trans hO)
    have HR := Lib.hid hR
    have hz3 := hO.size
    (try simp at hz3)
    clear hO hR
    have nA0 : w.heap.size < w3.heap.size := by omega
    have nB0 : ¬ w.heap.size = w3.heap.size := by omega
    have nC0 : ¬ w3.heap.size = w.heap.size := by omega
    have nA1 : w1.heap.size < w3.heap.size := by omega
    have nB1 : ¬ w1.heap.size = w3.heap.size := by omega
    have nC1 : ¬ w3.heap.size = w1.heap.size := by omega
    have nR : R < w3.heap.size := HR.out.lt
    go_wp2_with fail
    refine (spla_any p q z _).mono ?_
    rintro e w4 ho
    obtain ⟨S, o1, hS⟩ : ∃ SS oo, gPla p q z = (SS, oo) := ⟨_, _, rfl⟩
    rw [hS] at ho
    clear hS
    obtain ⟨rfl, hb⟩ : e = .returned (.tuple #[.agg #[.int .i64 S.a.re, .int .i64 S.a.im, .int .i64 S.a.den, .int .i64 S.b.re, .int .i64 S.b.im, .int .i64 S.b.den, .int .i64 S.c.re, .int .i64 S.c.im, .int .i64 S.c.den, .int .i64 S.d.re, .int .i64 S.d.im, .int .i64 S.d.den], .bool o1]) ∧ Below _ _ _ := ho.fn
    have HM0 := Lib.hid (HM0.out.below hb (by first | omega | (simp <;> omega)))
    have HQ := Lib.hid (HQ.out.below hb (by first | omega | (simp <;> omega)))
    have HO := Lib.hid (HO.out.below hb)
    have HR := Lib.hid (HR.out.next hb)
    have hz4 := hb.size
    (try simp at hz4)
    clear ho hb
    have nA0 : w.heap.size < w4.heap.size := by omega
    have nB0 : ¬ w.heap.size = w4.heap.size := by omega
    have nC0 : ¬ w4.heap.size = w.heap.size := by omega
    have nA1 : w1.heap.size < w4.heap.size := by omega
    have nB1 : ¬ w1.heap.size = w4.heap.size := by omega
    have nC1 : ¬ w4.heap.size = w1.heap.size := by omega
    have nR : R < w4.heap.size := HR.out.lt
    have HM0 := Lib.hid (HM0.out.sets (w1.heap.size) [.int .i64 S.a.re, .int .i64 S.a.im, .int .i64 S.a.den, .int .i64 S.b.re, .int .i64 S.b.im, .int .i64 S.b.den, .int .i64 S.c.re, .int .i64 S.c.im, .int .i64 S.c.den, .int .i64 S.d.re, .int .i64 S.d.im, .int .i64 S.d.den] 0)
    have HQS := Lib.hid (HQ.out.sets (w1.heap.size) [.int .i64 S.a.re, .int .i64 S.a.im, .int .i64 S.a.den, .int .i64 S.b.re, .int .i64 S.b.im, .int .i64 S.b.den, .int .i64 S.c.re, .int .i64 S.c.im, .int .i64 S.c.den, .int .i64 S.d.re, .int .i64 S.d.im, .int .i64 S.d.den] 0)
    have hth := HQ.out.there
    have HO := Lib.hid (HO.out.sets (w1.heap.size) [.int .i64 S.a.re, .int .i64 S.a.im, .int .i64 S.a.den, .int .i64 S.b.re, .int .i64 S.b.im, .int .i64 S.b.den, .int .i64 S.c.re, .int .i64 S.c.im, .int .i64 S.c.den, .int .i64 S.d.re, .int .i64 S.d.im, .int .i64 S.d.den] 0 (by omega))
    have HR := Lib.hid (HR.out.puts (w1.heap.size) [.int .i64 S.a.re, .int .i64 S.a.im, .int .i64 S.a.den, .int .i64 S.b.re, .int .i64 S.b.im, .int .i64 S.b.den, .int .i64 S.c.re, .int .i64 S.c.im, .int .i64 S.c.den, .int .i64 S.d.re, .int .i64 S.d.im, .int .i64 S.d.den] 0 (by omega))
    have hzs : (w4.setCells (w1.heap.size) 0 [.int .i64 S.a.re, .int .i64 S.a.im, .int .i64 S.a.den, .int .i64 S.b.re, .int .i64 S.b.im, .int .i64 S.b.den, .int .i64 S.c.re, .int .i64 S.c.im, .int .i64 S.c.den, .int .i64 S.d.re, .int .i64 S.d.im, .int .i64 S.d.den]).heap.size = w4.heap.size := sets_size _ _ _ _
    cases o1
    · skip
      go_wp2_with (first | ((with_reducible refine wpList_store_mid ?km71 41 ?km7x ?km7y ?km72 (w1.heap.size) 0 #[.int .i64 S.a.re, .int .i64 S.a.im, .int .i64 S.a.den, .int .i64 S.b.re, .int .i64 S.b.im, .int .i64 S.b.den, .int .i64 S.c.re, .int .i64 S.c.im, .int .i64 S.c.den, .int .i64 S.d.re, .int .i64 S.d.im, .int .i64 S.d.den] ?km73 ?km74 ?km75 ?km76 ?km77 ?km78); (case km72 => rfl); (case km71 => rfl); (case km73 => rfl); (case km74 => rfl); (case km75 => exact hth); (case km76 => kernel_rfl); (case km77 => exact (by simp [Value.oneCell']))))
      go_loopw [7] (fun v wr => MR N R a0 len cap (k + 5) w1.heap.size w v wr) (fun v _ => (4 - intOf v).toNat)
      case atStart => exact ⟨0, rfl, by omega, HO.out, HR.out.mono (by omega), by omega, by first | omega | (rw [hzs]; omega), HM0.out, HQS.out, fun _ => fz, fun k hk => absurd hk (by omega)⟩
      case round =>
        obtain ⟨i, rfl, hT⟩ := hrel
        clear HO HR HM0
        by_cases h4 : i < 4
        · have j0 : (0 : Int) ≤ (i : Int) := by omega
          have j1 : (i : Int) < 4 := by omega
          have HT := Lib.hid hT
          clear hT
          go_wp2_with fail
          refine (l91Frac_20 (by omega) HT.out.rd).mono ?_
          rintro e wv ⟨v, rfl, ⟨f, rfl⟩, hO, hR⟩
          have HS := Lib.hid (HT.out.step h4 hRl hO hR f)
          have hlo := HT.out.lo
          have hhi := HT.out.hi
          have hr := HT.out.room.own hO hhi (by omega)
          obtain ⟨v0, e0⟩ := Option.isSome_iff_exists.1 (hr (i * 3) (by omega)).1
          have f0 := (hr (i * 3) (by omega)).2
          obtain ⟨v1, e1⟩ := Option.isSome_iff_exists.1 (hr (i * 3 + 1) (by omega)).1
          have f1 := (hr (i * 3 + 1) (by omega)).2
          obtain ⟨v2, e2⟩ := Option.isSome_iff_exists.1 (hr (i * 3 + 2) (by omega)).1
          have f2 := (hr (i * 3 + 2) (by omega)).2
          clear hr hO hR HT
          go_wp2
          go_roundw
          case rel => exact ⟨i + 1, by go_num, HS.out⟩
          case measure => simp [intOf]; omega
        · obtain rfl : i = 4 := by have := hT.le; omega
          obtain ⟨gg, hg⟩ := hT.box
          have HX : Hid (BoxAt wr (w1.heap.size) (m4h gg).get 4) := fun j hj => by rw [m4h_get gg hj]; exact hg j hj
          have HM0 := Lib.hid hT.res
          have HO := Lib.hid hT.own
          have HR := Lib.hid hT.rd
          have hzw := hT.own.size
          clear hT hg
          have HR := Lib.hid (HR.out.mono (show _ ≤ k + 100 by omega))
          go_wp2_with (first | ((with_reducible refine wpList_load_mid ?km81 41 ?km8x ?km82 (w1.heap.size) 0 ?km83 (cl (m4h gg).get 4) ?km8d ?km84 ?km85 ?km86 ?km87 ?km88); (case km82 => rfl); (case km81 => rfl); (case km83 => rfl); (case km84 => exact (HX.out.range)); (case km85 => exact Tryd.underlying41); (case km86 => rfl); (case km87 => kernel_rfl)) | ((with_reducible refine wpList_store_mid ?km91 41 ?km9x ?km9y ?km92 (w.heap.size) 0 (cl (m4h gg).get 4).toArray ?km93 ?km94 ?km95 ?km96 ?km97 ?km98); (case km92 => rfl); (case km91 => rfl); (case km93 => rfl); (case km94 => rfl); (case km95 => exact (HM0.out.thereC _)); (case km96 => kernel_rfl); (case km97 => exact (cl_one _ _))))
          refine bodyPost_ret (v := .agg (cl (m4h gg).get 4).toArray) (results_cell_mid rfl _ _ (w.heap.size) (cl (m4h gg).get 4) _ (by rfl) (World.rangeAt_setCells_same _ _ _ _ (HM0.out.thereC _)) Tryd.underlying41 rfl (by kernel_rfl)) rfl ⟨_, rfl, ⟨(m4h gg), congrArg Value.agg (cl4 (m4h gg))⟩, ?_, ?_⟩
          · exact HO.out.sets _ _ _ (by omega)
          · exact HR.out.puts _ _ _ (by omega)
    · skip
      have HR := Lib.hid (HR.out.mono (show _ ≤ k + 100 by omega))
      have hr0 : ((w4.setCells (w1.heap.size) 0 [.int .i64 S.a.re, .int .i64 S.a.im, .int .i64 S.a.den, .int .i64 S.b.re, .int .i64 S.b.im, .int .i64 S.b.den, .int .i64 S.c.re, .int .i64 S.c.im, .int .i64 S.c.den, .int .i64 S.d.re, .int .i64 S.d.im, .int .i64 S.d.den])).rangeAt (w1.heap.size) 0 [.int .i64 S.a.re, .int .i64 S.a.im, .int .i64 S.a.den, .int .i64 S.b.re, .int .i64 S.b.im, .int .i64 S.b.den, .int .i64 S.c.re, .int .i64 S.c.im, .int .i64 S.c.den, .int .i64 S.d.re, .int .i64 S.d.im, .int .i64 S.d.den] := World.rangeAt_setCells_same _ _ _ _ hth
      have hth0 := HM0.out.there
      go_wp2_with (first | ((with_reducible refine wpList_store_mid ?km101 41 ?km10x ?km10y ?km102 (w1.heap.size) 0 #[.int .i64 S.a.re, .int .i64 S.a.im, .int .i64 S.a.den, .int .i64 S.b.re, .int .i64 S.b.im, .int .i64 S.b.den, .int .i64 S.c.re, .int .i64 S.c.im, .int .i64 S.c.den, .int .i64 S.d.re, .int .i64 S.d.im, .int .i64 S.d.den] ?km103 ?km104 ?km105 ?km106 ?km107 ?km108); (case km102 => rfl); (case km101 => rfl); (case km103 => rfl); (case km104 => rfl); (case km105 => exact hth); (case km106 => kernel_rfl); (case km107 => exact (by simp [Value.oneCell']))) | ((with_reducible refine wpList_load_mid ?km111 41 ?km11x ?km112 (w1.heap.size) 0 ?km113 [.int .i64 S.a.re, .int .i64 S.a.im, .int .i64 S.a.den, .int .i64 S.b.re, .int .i64 S.b.im, .int .i64 S.b.den, .int .i64 S.c.re, .int .i64 S.c.im, .int .i64 S.c.den, .int .i64 S.d.re, .int .i64 S.d.im, .int .i64 S.d.den] ?km11d ?km114 ?km115 ?km116 ?km117 ?km118); (case km112 => rfl); (case km111 => rfl); (case km113 => rfl); (case km114 => exact hr0); (case km115 => exact Tryd.underlying41); (case km116 => rfl); (case km117 => kernel_rfl)) | ((with_reducible refine wpList_store_mid ?km121 41 ?km12x ?km12y ?km122 (w.heap.size) 0 #[.int .i64 S.a.re, .int .i64 S.a.im, .int .i64 S.a.den, .int .i64 S.b.re, .int .i64 S.b.im, .int .i64 S.b.den, .int .i64 S.c.re, .int .i64 S.c.im, .int .i64 S.c.den, .int .i64 S.d.re, .int .i64 S.d.im, .int .i64 S.d.den] ?km123 ?km124 ?km125 ?km126 ?km127 ?km128); (case km122 => rfl); (case km121 => rfl); (case km123 => rfl); (case km124 => rfl); (case km125 => exact hth0); (case km126 => kernel_rfl); (case km127 => exact (by simp [Value.oneCell']))))
      refine bodyPost_ret (v := .agg #[.int .i64 S.a.re, .int .i64 S.a.im, .int .i64 S.a.den, .int .i64 S.b.re, .int .i64 S.b.im, .int .i64 S.b.den, .int .i64 S.c.re, .int .i64 S.c.im, .int .i64 S.c.den, .int .i64 S.d.re, .int .i64 S.d.im, .int .i64 S.d.den]) (results_cell_mid rfl _ _ (w.heap.size) [.int .i64 S.a.re, .int .i64 S.a.im, .int .i64 S.a.den, .int .i64 S.b.re, .int .i64 S.b.im, .int .i64 S.b.den, .int .i64 S.c.re, .int .i64 S.c.im, .int .i64 S.c.den, .int .i64 S.d.re, .int .i64 S.d.im, .int .i64 S.d.den] _ (by rfl) (World.rangeAt_setCells_same _ _ _ _ hth0) Tryd.underlying41 rfl (by kernel_rfl)) rfl ⟨_, rfl, ⟨S, rfl⟩, ?_, ?_⟩
      · exact HO.out.sets _ _ _ (by omega)
      · exact HR.out.puts _ _ _ (by omega)
  have qm1 : (m == 1) = false := by simpa using hm
  clear hm
  by_cases hm : m = 2
  · subst hm
    go_wp2_with fail
    refine (sfil_any p q _).mono ?_
    rintro e w3 ho
    obtain ⟨S, o1, hS⟩ : ∃ SS oo, gFil p q = (SS, oo) := ⟨_, _, rfl⟩
    rw [hS] at ho
    clear hS
    obtain ⟨rfl, hb⟩ : e = .returned (.tuple #[.agg #[.int .i64 S.a.re, .int .i64 S.a.im, .int .i64 S.a.den, .int .i64 S.b.re, .int .i64 S.b.im, .int .i64 S.b.den, .int .i64 S.c.re, .int .i64 S.c.im, .int .i64 S.c.den, .int .i64 S.d.re, .int .i64 S.d.im, .int .i64 S.d.den], .bool o1]) ∧ Below _ _ _ := ho.fn
    have HM0 := Lib.hid (HM0.out.below hb (by first | omega | (simp <;> omega)))
    have HQ := Lib.hid (HQ.out.below hb (by first | omega | (simp <;> omega)))
    have HO := Lib.hid (HO.out.below hb)
    have HR := Lib.hid (HR.out.next hb)
    have hz3 := hb.size
    (try simp at hz3)
    clear ho hb
    have nA0 : w.heap.size < w3.heap.size := by omega
    have nB0 : ¬ w.heap.size = w3.heap.size := by omega
    have nC0 : ¬ w3.heap.size = w.heap.size := by omega
    have nA1 : w1.heap.size < w3.heap.size := by omega
    have nB1 : ¬ w1.heap.size = w3.heap.size := by omega
    have nC1 : ¬ w3.heap.size = w1.heap.size := by omega
    have nR : R < w3.heap.size := HR.out.lt
    have HM0 := Lib.hid (HM0.out.sets (w1.heap.size) [.int .i64 S.a.re, .int .i64 S.a.im, .int .i64 S.a.den, .int .i64 S.b.re, .int .i64 S.b.im, .int .i64 S.b.den, .int .i64 S.c.re, .int .i64 S.c.im, .int .i64 S.c.den, .int .i64 S.d.re, .int .i64 S.d.im, .int .i64 S.d.den] 0)
    have HQS := Lib.hid (HQ.out.sets (w1.heap.size) [.int .i64 S.a.re, .int .i64 S.a.im, .int .i64 S.a.den, .int .i64 S.b.re, .int .i64 S.b.im, .int .i64 S.b.den, .int .i64 S.c.re, .int .i64 S.c.im, .int .i64 S.c.den, .int .i64 S.d.re, .int .i64 S.d.im, .int .i64 S.d.den] 0)
    have hth := HQ.out.there
    have HO := Lib.hid (HO.out.sets (w1.heap.size) [.int .i64 S.a.re, .int .i64 S.a.im, .int .i64 S.a.den, .int .i64 S.b.re, .int .i64 S.b.im, .int .i64 S.b.den, .int .i64 S.c.re, .int .i64 S.c.im, .int .i64 S.c.den, .int .i64 S.d.re, .int .i64 S.d.im, .int .i64 S.d.den] 0 (by omega))
    have HR := Lib.hid (HR.out.puts (w1.heap.size) [.int .i64 S.a.re, .int .i64 S.a.im, .int .i64 S.a.den, .int .i64 S.b.re, .int .i64 S.b.im, .int .i64 S.b.den, .int .i64 S.c.re, .int .i64 S.c.im, .int .i64 S.c.den, .int .i64 S.d.re, .int .i64 S.d.im, .int .i64 S.d.den] 0 (by omega))
    have hzs : (w3.setCells (w1.heap.size) 0 [.int .i64 S.a.re, .int .i64 S.a.im, .int .i64 S.a.den, .int .i64 S.b.re, .int .i64 S.b.im, .int .i64 S.b.den, .int .i64 S.c.re, .int .i64 S.c.im, .int .i64 S.c.den, .int .i64 S.d.re, .int .i64 S.d.im, .int .i64 S.d.den]).heap.size = w3.heap.size := sets_size _ _ _ _
    cases o1
    · skip
      go_wp2_with (first | ((with_reducible refine wpList_store_mid ?km131 41 ?km13x ?km13y ?km132 (w1.heap.size) 0 #[.int .i64 S.a.re, .int .i64 S.a.im, .int .i64 S.a.den, .int .i64 S.b.re, .int .i64 S.b.im, .int .i64 S.b.den, .int .i64 S.c.re, .int .i64 S.c.im, .int .i64 S.c.den, .int .i64 S.d.re, .int .i64 S.d.im, .int .i64 S.d.den] ?km133 ?km134 ?km135 ?km136 ?km137 ?km138); (case km132 => rfl); (case km131 => rfl); (case km133 => rfl); (case km134 => rfl); (case km135 => exact hth); (case km136 => kernel_rfl); (case km137 => exact (by simp [Value.oneCell']))))
      go_loopw [7] (fun v wr => MR N R a0 len cap (k + 5) w1.heap.size w v wr) (fun v _ => (4 - intOf v).toNat)
      case atStart => exact ⟨0, rfl, by omega, HO.out, HR.out.mono (by omega), by omega, by first | omega | (rw [hzs]; omega), HM0.out, HQS.out, fun _ => fz, fun k hk => absurd hk (by omega)⟩
      case round =>
        obtain ⟨i, rfl, hT⟩ := hrel
        clear HO HR HM0
        by_cases h4 : i < 4
        · have j0 : (0 : Int) ≤ (i : Int) := by omega
          have j1 : (i : Int) < 4 := by omega
          have HT := Lib.hid hT
          clear hT
          go_wp2_with fail
          refine (l91Frac_20 (by omega) HT.out.rd).mono ?_
          rintro e wv ⟨v, rfl, ⟨f, rfl⟩, hO, hR⟩
          have HS := Lib.hid (HT.out.step h4 hRl hO hR f)
          have hlo := HT.out.lo
          have hhi := HT.out.hi
          have hr := HT.out.room.own hO hhi (by omega)
          obtain ⟨v0, e0⟩ := Option.isSome_iff_exists.1 (hr (i * 3) (by omega)).1
          have f0 := (hr (i * 3) (by omega)).2
          obtain ⟨v1, e1⟩ := Option.isSome_iff_exists.1 (hr (i * 3 + 1) (by omega)).1
          have f1 := (hr (i * 3 + 1) (by omega)).2
          obtain ⟨v2, e2⟩ := Option.isSome_iff_exists.1 (hr (i * 3 + 2) (by omega)).1
          have f2 := (hr (i * 3 + 2) (by omega)).2
          clear hr hO hR HT
          go_wp2
          go_roundw
          case rel => exact ⟨i + 1, by go_num, HS.out⟩
          case measure => simp [intOf]; omega
        · obtain rfl : i = 4 := by have := hT.le; omega
          obtain ⟨gg, hg⟩ := hT.box
          have HX : Hid (BoxAt wr (w1.heap.size) (m4h gg).get 4) := fun j hj => by rw [m4h_get gg hj]; exact hg j hj
          have HM0 := Lib.hid hT.res
          have HO := Lib.hid hT.own
          have HR := Lib.hid hT.rd
          have hzw := hT.own.size
          clear hT hg
          have HR := Lib.hid (HR.out.mono (show _ ≤ k + 100 by omega))
          go_wp2_with (first | ((with_reducible refine wpList_load_mid ?km141 41 ?km14x ?km142 (w1.heap.size) 0 ?km143 (cl (m4h gg).get 4) ?km14d ?km144 ?km145 ?km146 ?km147 ?km148); (case km142 => rfl); (case km141 => rfl); (case km143 => rfl); (case km144 => exact (HX.out.range)); (case km145 => exact Tryd.underlying41); (case km146 => rfl); (case km147 => kernel_rfl)) | ((with_reducible refine wpList_store_mid ?km151 41 ?km15x ?km15y ?km152 (w.heap.size) 0 (cl (m4h gg).get 4).toArray ?km153 ?km154 ?km155 ?km156 ?km157 ?km158); (case km152 => rfl); (case km151 => rfl); (case km153 => rfl); (case km154 => rfl); (case km155 => exact (HM0.out.thereC _)); (case km156 => kernel_rfl); (case km157 => exact (cl_one _ _))))
          refine bodyPost_ret (v := .agg (cl (m4h gg).get 4).toArray) (results_cell_mid rfl _ _ (w.heap.size) (cl (m4h gg).get 4) _ (by rfl) (World.rangeAt_setCells_same _ _ _ _ (HM0.out.thereC _)) Tryd.underlying41 rfl (by kernel_rfl)) rfl ⟨_, rfl, ⟨(m4h gg), congrArg Value.agg (cl4 (m4h gg))⟩, ?_, ?_⟩
          · exact HO.out.sets _ _ _ (by omega)
          · exact HR.out.puts _ _ _ (by omega)
    · skip
      have HR := Lib.hid (HR.out.mono (show _ ≤ k + 100 by omega))
      have hr0 : ((w3.setCells (w1.heap.size) 0 [.int .i64 S.a.re, .int .i64 S.a.im, .int .i64 S.a.den, .int .i64 S.b.re, .int .i64 S.b.im, .int .i64 S.b.den, .int .i64 S.c.re, .int .i64 S.c.im, .int .i64 S.c.den, .int .i64 S.d.re, .int .i64 S.d.im, .int .i64 S.d.den])).rangeAt (w1.heap.size) 0 [.int .i64 S.a.re, .int .i64 S.a.im, .int .i64 S.a.den, .int .i64 S.b.re, .int .i64 S.b.im, .int .i64 S.b.den, .int .i64 S.c.re, .int .i64 S.c.im, .int .i64 S.c.den, .int .i64 S.d.re, .int .i64 S.d.im, .int .i64 S.d.den] := World.rangeAt_setCells_same _ _ _ _ hth
      have hth0 := HM0.out.there
      go_wp2_with (first | ((with_reducible refine wpList_store_mid ?km161 41 ?km16x ?km16y ?km162 (w1.heap.size) 0 #[.int .i64 S.a.re, .int .i64 S.a.im, .int .i64 S.a.den, .int .i64 S.b.re, .int .i64 S.b.im, .int .i64 S.b.den, .int .i64 S.c.re, .int .i64 S.c.im, .int .i64 S.c.den, .int .i64 S.d.re, .int .i64 S.d.im, .int .i64 S.d.den] ?km163 ?km164 ?km165 ?km166 ?km167 ?km168); (case km162 => rfl); (case km161 => rfl); (case km163 => rfl); (case km164 => rfl); (case km165 => exact hth); (case km166 => kernel_rfl); (case km167 => exact (by simp [Value.oneCell']))) | ((with_reducible refine wpList_load_mid ?km171 41 ?km17x ?km172 (w1.heap.size) 0 ?km173 [.int .i64 S.a.re, .int .i64 S.a.im, .int .i64 S.a.den, .int .i64 S.b.re, .int .i64 S.b.im, .int .i64 S.b.den, .int .i64 S.c.re, .int .i64 S.c.im, .int .i64 S.c.den, .int .i64 S.d.re, .int .i64 S.d.im, .int .i64 S.d.den] ?km17d ?km174 ?km175 ?km176 ?km177 ?km178); (case km172 => rfl); (case km171 => rfl); (case km173 => rfl); (case km174 => exact hr0); (case km175 => exact Tryd.underlying41); (case km176 => rfl); (case km177 => kernel_rfl)) | ((with_reducible refine wpList_store_mid ?km181 41 ?km18x ?km18y ?km182 (w.heap.size) 0 #[.int .i64 S.a.re, .int .i64 S.a.im, .int .i64 S.a.den, .int .i64 S.b.re, .int .i64 S.b.im, .int .i64 S.b.den, .int .i64 S.c.re, .int .i64 S.c.im, .int .i64 S.c.den, .int .i64 S.d.re, .int .i64 S.d.im, .int .i64 S.d.den] ?km183 ?km184 ?km185 ?km186 ?km187 ?km188); (case km182 => rfl); (case km181 => rfl); (case km183 => rfl); (case km184 => rfl); (case km185 => exact hth0); (case km186 => kernel_rfl); (case km187 => exact (by simp [Value.oneCell']))))
      refine bodyPost_ret (v := .agg #[.int .i64 S.a.re, .int .i64 S.a.im, .int .i64 S.a.den, .int .i64 S.b.re, .int .i64 S.b.im, .int .i64 S.b.den, .int .i64 S.c.re, .int .i64 S.c.im, .int .i64 S.c.den, .int .i64 S.d.re, .int .i64 S.d.im, .int .i64 S.d.den]) (results_cell_mid rfl _ _ (w.heap.size) [.int .i64 S.a.re, .int .i64 S.a.im, .int .i64 S.a.den, .int .i64 S.b.re, .int .i64 S.b.im, .int .i64 S.b.den, .int .i64 S.c.re, .int .i64 S.c.im, .int .i64 S.c.den, .int .i64 S.d.re, .int .i64 S.d.im, .int .i64 S.d.den] _ (by rfl) (World.rangeAt_setCells_same _ _ _ _ hth0) Tryd.underlying41 rfl (by kernel_rfl)) rfl ⟨_, rfl, ⟨S, rfl⟩, ?_, ?_⟩
      · exact HO.out.sets _ _ _ (by omega)
      · exact HR.out.puts _ _ _ (by omega)
  have qm2 : (m == 2) = false := by simpa using hm
  clear hm
  go_wp2
  go_loopw [7] (fun v wr => MR N R a0 len cap (k + 5) w1.heap.size w v wr) (fun v _ => (4 - intOf v).toNat)
  case atStart => exact ⟨0, rfl, by omega, HO.out, HR.out.mono (by omega), by omega, by first | omega | (rw [hzs]; omega), HM0.out, HQ.out, fun _ => fz, fun k hk => absurd hk (by omega)⟩
  case round =>
    obtain ⟨i, rfl, hT⟩ := hrel
    clear HO HR HM0
    by_cases h4 : i < 4
    · have j0 : (0 : Int) ≤ (i : Int) := by omega
      have j1 : (i : Int) < 4 := by omega
      have HT := Lib.hid hT
      clear hT
      go_wp2_with fail
      refine (l91Frac_20 (by omega) HT.out.rd).mono ?_
      rintro e wv ⟨v, rfl, ⟨f, rfl⟩, hO, hR⟩
      have HS := Lib.hid (HT.out.step h4 hRl hO hR f)
      have hlo := HT.out.lo
      have hhi := HT.out.hi
      have hr := HT.out.room.own hO hhi (by omega)
      obtain ⟨v0, e0⟩ := Option.isSome_iff_exists.1 (hr (i * 3) (by omega)).1
      have f0 := (hr (i * 3) (by omega)).2
      obtain ⟨v1, e1⟩ := Option.isSome_iff_exists.1 (hr (i * 3 + 1) (by omega)).1
      have f1 := (hr (i * 3 + 1) (by omega)).2
      obtain ⟨v2, e2⟩ := Option.isSome_iff_exists.1 (hr (i * 3 + 2) (by omega)).1
      have f2 := (hr (i * 3 + 2) (by omega)).2
      clear hr hO hR HT
      go_wp2
      go_roundw
      case rel => exact ⟨i + 1, by go_num, HS.out⟩
      case measure => simp [intOf]; omega
    · obtain rfl : i = 4 := by have := hT.le; omega
      obtain ⟨gg, hg⟩ := hT.box
      have HX : Hid (BoxAt wr (w1.heap.size) (m4h gg).get 4) := fun j hj => by rw [m4h_get gg hj]; exact hg j hj
      have HM0 := Lib.hid hT.res
      have HO := Lib.hid hT.own
      have HR := Lib.hid hT.rd
      have hzw := hT.own.size
      clear hT hg
      have HR := Lib.hid (HR.out.mono (show _ ≤ k + 100 by omega))
      go_wp2_with (first | ((with_reducible refine wpList_load_mid ?km191 41 ?km19x ?km192 (w1.heap.size) 0 ?km193 (cl (m4h gg).get 4) ?km19d ?km194 ?km195 ?km196 ?km197 ?km198); (case km192 => rfl); (case km191 => rfl); (case km193 => rfl); (case km194 => exact (HX.out.range)); (case km195 => exact Tryd.underlying41); (case km196 => rfl); (case km197 => kernel_rfl)) | ((with_reducible refine wpList_store_mid ?km201 41 ?km20x ?km20y ?km202 (w.heap.size) 0 (cl (m4h gg).get 4).toArray ?km203 ?km204 ?km205 ?km206 ?km207 ?km208); (case km202 => rfl); (case km201 => rfl); (case km203 => rfl); (case km204 => rfl); (case km205 => exact (HM0.out.thereC _)); (case km206 => kernel_rfl); (case km207 => exact (cl_one _ _))))
      refine bodyPost_ret (v := .agg (cl (m4h gg).get 4).toArray) (results_cell_mid rfl _ _ (w.heap.size) (cl (m4h gg).get 4) _ (by rfl) (World.rangeAt_setCells_same _ _ _ _ (HM0.out.thereC _)) Tryd.underlying41 rfl (by kernel_rfl)) rfl ⟨_, rfl, ⟨(m4h gg), congrArg Value.agg (cl4 (m4h gg))⟩, ?_, ?_⟩
      · exact HO.out.sets _ _ _ (by omega)
      · exact HR.out.puts _ _ _ (by omega)
end Go.Proofs.YtmcokdiopcpifaaDoor
