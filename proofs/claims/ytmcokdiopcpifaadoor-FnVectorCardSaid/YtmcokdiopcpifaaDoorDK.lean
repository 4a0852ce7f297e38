/- Contracts: what the laws' draws read (a code byte by byte, past its end a mixture). -/
import Derived.Test.YtmcokdiopcpifaaDoorC
set_option maxRecDepth 100000
namespace Go.Proofs.YtmcokdiopcpifaaDoor
open Go.RowKit Pol

/-- The code's bytes lie in the argument's memory. -/
def Code (N : Nat) (w : World) (a0 : Option Addr) (len : Nat) : Prop := ∀ i, i < len → ∃ B off, a0 = some ⟨B, off, none⟩ ∧ B < N ∧ ∃ z : Int, 0 ≤ z ∧ z < 256 ∧ w.cell? ⟨B, off + i, none⟩ = some (.int .u8 z)
theorem Code.keep {N : Nat} {w w' : World} {a0 : Option Addr} {len : Nat} (h : Code N w a0 len) (hk : ∀ B o, B < N → w'.cell? ⟨B, o, none⟩ = w.cell? ⟨B, o, none⟩) : Code N w' a0 len := fun i hi => by
  obtain ⟨B, off, h1, h2, z, h3, h4, h5⟩ := h i hi
  exact ⟨B, off, h1, h2, z, h3, h4, (hk B _ h2).trans h5⟩
/-- Nothing that was there has turned but block R. -/
structure Own (R : Nat) (w w' : World) : Prop where
  os : w'.os = w.os
  tape : w'.tape = w.tape
  output : w'.output = w.output
  size : w.heap.size ≤ w'.heap.size
  block : ∀ k, k < w.heap.size → k ≠ R → w'.heap[k]? = w.heap[k]?
theorem Own.refl (R : Nat) (w : World) : Own R w w := ⟨rfl, rfl, rfl, Nat.le_refl _, fun _ _ _ => rfl⟩
theorem Own.trans {R : Nat} {w w1 w2 : World} (h : Own R w w1) (k : Own R w1 w2) : Own R w w2 :=
  ⟨k.os.trans h.os, k.tape.trans h.tape, k.output.trans h.output, Nat.le_trans h.size k.size, fun i hi hn => (k.block i (Nat.lt_of_lt_of_le hi h.size) hn).trans (h.block i hi hn)⟩
theorem Own.below {R : Nat} {w w1 w2 : World} (h : Own R w w1) (k : Below w1.heap.size w1 w2) : Own R w w2 :=
  ⟨k.os.trans h.os, k.tape.trans h.tape, k.output.trans h.output, Nat.le_trans h.size k.size, fun i hi hn => (k.block i (Nat.lt_of_lt_of_le hi h.size)).trans (h.block i hi hn)⟩
theorem Own.after {R : Nat} {w w1 w2 : World} (k : Below w.heap.size w w1) (h : Own R w1 w2) : Own R w w2 :=
  ⟨h.os.trans k.os, h.tape.trans k.tape, h.output.trans k.output, Nat.le_trans k.size h.size, fun i hi hn => (h.block i (Nat.lt_of_lt_of_le hi k.size) hn).trans (k.block i hi)⟩
theorem Own.set (R : Nat) (o : Nat) (w : World) (v : Value) : Own R w (w.setCell ⟨R, o, none⟩ v) :=
  ⟨rfl, rfl, rfl, by rw [World.size_setCell]; exact Nat.le_refl _, fun i _ hn => Below.heap_setCell _ _ _ _ hn⟩
theorem Own.drew {R : Nat} {w w1 : World} (h : Own R w w1) : Own R w w1.drew := ⟨h.os, h.tape, h.output, h.size, h.block⟩
theorem Own.drewN {R : Nat} {w w1 : World} (h : Own R w w1) (n : Nat) : Own R w (w1.drewN n) := ⟨h.os, h.tape, h.output, h.size, h.block⟩
theorem Own.mine {R : Nat} {a w w' : World} (h : Own R w w') (k : Below a.heap.size a w) (hb : a.heap.size ≤ R) : Below a.heap.size a w' :=
  k.trans ⟨h.os, h.tape, h.output, h.size, fun i hi => h.block i (Nat.lt_of_lt_of_le hi k.size) (by omega)⟩
theorem Own.cell {R : Nat} {w w1 : World} (h : Own R w w1) {k : Nat} (hk : k < w.heap.size) (hn : k ≠ R) (o : Nat) : w1.cell? ⟨k, o, none⟩ = w.cell? ⟨k, o, none⟩ := World.cell?_of_block (h.block k hk hn)
theorem Own.frozen {R : Nat} {w w1 : World} (h : Own R w w1) {k : Nat} (hk : k < w.heap.size) (hn : k ≠ R) (o : Nat) : w1.frozen? ⟨k, o, none⟩ = w.frozen? ⟨k, o, none⟩ := World.frozen?_of_block (h.block k hk hn)
/-- The reader in block R, at most k bytes on. -/
structure Rd (N R : Nat) (a0 : Option Addr) (len cap k : Nat) (w : World) : Prop where
  lt : R < w.heap.size
  base : N ≤ R
  slice : w.cell? ⟨R, 0, none⟩ = some (.slice a0 len cap)
  place : ∃ p : Nat, p ≤ k ∧ w.cell? ⟨R, 1, none⟩ = some (.int .i64 p)
  free : w.frozen? ⟨R, 1, none⟩ = false
  short : len ≤ 2000
  code : Code N w a0 len
theorem Rd.mono {N R : Nat} {a0 : Option Addr} {len cap k k' : Nat} {w : World} (h : Rd N R a0 len cap k w) (hk : k ≤ k') : Rd N R a0 len cap k' w :=
  ⟨h.lt, h.base, h.slice, by obtain ⟨p, h1, h2⟩ := h.place; exact ⟨p, Nat.le_trans h1 hk, h2⟩, h.free, h.short, h.code⟩
theorem Rd.next {N R : Nat} {a0 : Option Addr} {len cap k : Nat} {w w' : World} (h : Rd N R a0 len cap k w) (hb : Below w.heap.size w w') : Rd N R a0 len cap k w' :=
  ⟨Nat.lt_of_lt_of_le h.lt hb.size, h.base, (hb.cell (p := ⟨R, 0, none⟩) h.lt).trans h.slice, by obtain ⟨p, h1, h2⟩ := h.place; exact ⟨p, h1, (hb.cell (p := ⟨R, 1, none⟩) h.lt).trans h2⟩, (hb.frozen (p := ⟨R, 1, none⟩) h.lt).trans h.free, h.short, h.code.keep fun B o hB => hb.cell (p := ⟨B, o, none⟩) (by show B < _; have := h.lt; have := h.base; omega)⟩
theorem Rd.alloc {N R : Nat} {a0 : Option Addr} {len cap k : Nat} {w : World} (h : Rd N R a0 len cap k w) (o : Obj) : Rd N R a0 len cap k (w.alloc o) := h.next ((Below.refl _ _).alloc (Nat.le_refl _) o)
theorem Rd.drew {N R : Nat} {a0 : Option Addr} {len cap k : Nat} {w : World} (h : Rd N R a0 len cap k w) : Rd N R a0 len cap k w.drew := ⟨h.lt, h.base, h.slice, h.place, h.free, h.short, h.code⟩
theorem Rd.drewN {N R : Nat} {a0 : Option Addr} {len cap k : Nat} {w : World} (h : Rd N R a0 len cap k w) (n : Nat) : Rd N R a0 len cap k (w.drewN n) := ⟨h.lt, h.base, h.slice, h.place, h.free, h.short, h.code⟩
theorem Rd.put {N R : Nat} {a0 : Option Addr} {len cap k : Nat} {w : World} (h : Rd N R a0 len cap k w) {b o : Nat} (hb : R < b) (v : Value) : Rd N R a0 len cap k (w.setCell ⟨b, o, none⟩ v) := by
  have hf : ∀ B q, B < b → (w.setCell ⟨b, o, none⟩ v).cell? ⟨B, q, none⟩ = w.cell? ⟨B, q, none⟩ := fun B q hB => World.cell?_setCell_far _ _ _ _ (by show b ≠ B; omega)
  refine ⟨by rw [World.size_setCell]; exact h.lt, h.base, (hf _ _ hb).trans h.slice, by obtain ⟨p, h1, h2⟩ := h.place; exact ⟨p, h1, (hf _ _ hb).trans h2⟩, by rw [World.frozen?_setCell]; exact h.free, h.short, h.code.keep fun B q hB => hf B q (by have := h.base; omega)⟩
theorem xor_nn {a b : Int} (a0 : 0 ≤ a) (a1 : a < 4611686018427387904) (b0 : 0 ≤ b) (b1 : b < 4611686018427387904) : 0 ≤ bits .xor .i64 a b ∧ bits .xor .i64 a b < 4611686018427387904 := by
  obtain ⟨m, rfl⟩ := Int.eq_ofNat_of_zero_le a0
  obtain ⟨n, rfl⟩ := Int.eq_ofNat_of_zero_le b0
  have e : bits .xor .i64 (m : Int) (n : Int) = ((m ^^^ n : Nat) : Int) := by
    show IntKind.i64.wrap ((BitVec.ofInt 64 (m : Int) ^^^ BitVec.ofInt 64 (n : Int)).toNat : Int) = _
    have h1 : (BitVec.ofInt 64 (m : Int)).toNat = m := by
      rw [BitVec.ofInt_natCast, BitVec.toNat_ofNat]; exact Nat.mod_eq_of_lt (by omega)
    have h2 : (BitVec.ofInt 64 (n : Int)).toNat = n := by
      rw [BitVec.ofInt_natCast, BitVec.toNat_ofNat]; exact Nat.mod_eq_of_lt (by omega)
    have h3 : m ^^^ n < 2 ^ 62 := Nat.xor_lt_two_pow (by omega) (by omega)
    rw [BitVec.toNat_xor, h1, h2, IntKind.wrap_i64]
    omega
  have h3 : m ^^^ n < 2 ^ 62 := Nat.xor_lt_two_pow (by omega) (by omega)
  rw [e]
  omega
theorem Own.alloc {R : Nat} {w w1 : World} (h : Own R w w1) (o : Obj) : Own R w (w1.alloc o) := h.below ((Below.refl _ _).alloc (Nat.le_refl _) o)
theorem Own.setNew {R : Nat} {w w1 : World} (h : Own R w w1) {b o : Nat} (hb : w.heap.size ≤ b) (v : Value) : Own R w (w1.setCell ⟨b, o, none⟩ v) :=
  ⟨h.os, h.tape, h.output, by rw [World.size_setCell]; exact h.size, fun i hi hn => (Below.heap_setCell _ _ _ _ (by show i ≠ b; omega)).trans (h.block i hi hn)⟩
/-- What a reading hands back. -/
def RdOut (P : Value → Prop) (N R : Nat) (a0 : Option Addr) (len cap k : Nat) (w : World) (e : Ending) (w' : World) : Prop := ∃ v, e = .returned v ∧ P v ∧ Own R w w' ∧ Rd N R a0 len cap k w'
def NumP (n : Int) (v : Value) : Prop := ∃ m : Int, v = .int .i64 m ∧ 0 ≤ m ∧ m < n
set_option maxRecDepth 100000 in
set_option maxHeartbeats 4000000 in
theorem pick_any {N R : Nat} {a0 : Option Addr} {len cap k : Nat} {w : World} (n : Int) (hn : 1 ≤ n) (hn2 : n ≤ 1000) (hk : k ≤ 100000) (h : Rd N R a0 len cap k w) :
    Calls Tryd.prog 91 #[.pointer (some ⟨R, 0, none⟩), .int .i64 n] w (RdOut (NumP n) N R a0 len cap (k + 1) w) := by
  obtain ⟨p, hp, hc⟩ := h.place
  have hs := h.slice
  have hf := h.free
  have hs2 : (w.setCell ⟨R, 1, none⟩ (.int .i64 ((p : Int) + 1))).cell? ⟨R, 0, none⟩ = some (.slice a0 len cap) := by
    exact (World.cell?_setCell_other _ _ _ _ (by simp)).trans hs
  have hc2 : (w.setCell ⟨R, 1, none⟩ (.int .i64 ((p : Int) + 1))).cell? ⟨R, 1, none⟩ = some (.int .i64 ((p : Int) + 1)) := World.cell?_setCell_same' _ _ _ (by rw [hc]; rfl)
  have hO : Own R w (w.setCell ⟨R, 1, none⟩ (.int .i64 ((p : Int) + 1))) := Own.set R 1 w _
  have hC : Code N (w.setCell ⟨R, 1, none⟩ (.int .i64 ((p : Int) + 1))) a0 len := h.code.keep fun B o hB => World.cell?_setCell_far _ _ _ _ (by show R ≠ B; have := h.base; omega)
  have hR : Rd N R a0 len cap (k + 1) (w.setCell ⟨R, 1, none⟩ (.int .i64 ((p : Int) + 1))) :=
    ⟨by rw [World.size_setCell]; exact h.lt, h.base, hs2, ⟨p + 1, by omega, by exact_mod_cast hc2⟩, by rw [World.frozen?_setCell]; exact hf, h.short, hC⟩
  have hl := h.short
  have HO := Lib.hid hO; have HR := Lib.hid hR; clear hO hR h
  have hp2 : (p : Int) ≤ 100000 := by omega
  have hp0 : (0 : Int) ≤ (p : Int) := by omega
  have g1 : ¬ n < 1 := by omega
  rcases Nat.eq_zero_or_pos len with h0 | h0
  · subst h0
    go_enter Tryd.func91, Tryd.ntmps91
    go_wp2
    go_ret
    exact ⟨_, rfl, ⟨0, rfl, by omega, by omega⟩, HO.out, HR.out⟩
  · have g2 : ¬ (len : Int) = 0 := by omega
    rcases Nat.lt_or_ge p len with h1 | h1
    · obtain ⟨B, off, rfl, hB, z, z0, z1, hz⟩ := hC p h1
      have g3 : (p : Int) < (len : Int) := by omega
      clear hC
      go_enter Tryd.func91, Tryd.ntmps91
      go_wp2
      go_ret
      exact ⟨_, rfl, ⟨z % n, rfl, Int.emod_nonneg _ (by omega), Int.emod_lt_of_pos _ (by omega)⟩, HO.out, HR.out⟩
    · have g3 : ¬ (p : Int) < (len : Int) := by omega
      obtain ⟨m1, hm1⟩ : ∃ m, m = p % len := ⟨_, rfl⟩
      obtain ⟨m2, hm2⟩ : ∃ m, m = (p * 7 + 3) % len := ⟨_, rfl⟩
      obtain ⟨q, hq⟩ : ∃ m, m = p / len := ⟨_, rfl⟩
      have l1 : m1 < len := hm1 ▸ Nat.mod_lt _ h0
      have l2 : m2 < len := hm2 ▸ Nat.mod_lt _ h0
      have l3 : q ≤ p := hq ▸ Nat.div_le_self _ _
      obtain ⟨B, off, rfl, hB, z, z0, z1, hz⟩ := hC m1 l1
      obtain ⟨B', off', e', hB', y, y0, y1, hy⟩ := hC m2 l2
      obtain ⟨rfl, rfl⟩ : B = B' ∧ off = off' := by injection e' with e'; injection e' with e1 e2; exact ⟨e1, e2⟩
      clear e' hC hB'
      have c1 : (p : Int) % (len : Int) = (m1 : Int) := by rw [hm1]; simp
      have c2 : ((p : Int) * 7 + 3) % (len : Int) = (m2 : Int) := by rw [hm2]; simp
      have c3 : (p : Int) / (len : Int) = (q : Int) := by rw [hq]; rfl
      have t1 : (p : Int).tmod (len : Int) = (m1 : Int) := by rw [Int.tmod_eq_emod_of_nonneg (by omega), c1]
      have t2 : ((p : Int) * 7 + 3).tmod (len : Int) = (m2 : Int) := by rw [Int.tmod_eq_emod_of_nonneg (by omega), c2]
      have t3 : (p : Int).tdiv (len : Int) = (q : Int) := by rw [Int.tdiv_eq_ediv_of_nonneg (by omega), c3]
      clear hm1 hm2 hq
      go_enter Tryd.func91, Tryd.ntmps91
      go_wp2
      go_quiet (fail)
      go_wp2
      have hx := xor_nn (a := z * 131 + y * 1117 + ↑p * 29 + ↑q * 53) (b := (z * 131 + y * 1117 + ↑p * 29 + ↑q * 53) / 64) (by omega) (by omega) (by omega) (by omega)
      go_ret
      exact ⟨_, rfl, ⟨_, rfl, Int.tmod_nonneg _ hx.1, Int.tmod_lt_of_pos _ (by omega)⟩, HO.out.drewN _, HR.out.drewN _⟩
end Go.Proofs.YtmcokdiopcpifaaDoor
