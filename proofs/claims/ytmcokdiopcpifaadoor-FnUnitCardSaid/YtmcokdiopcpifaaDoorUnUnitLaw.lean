/- Multiples of nothing changed are multiples. The row lists package-level variables, and the card ties them to the text of the program: the pruned copy of the project that the seat holds. -/
import Derived.Test.YtmcokdiopcpifaaDoorUnG7
import Derived.Test.YtmcokdiopcpifaaDoorUnTA
import Derived.Test.YtmcokdiopcpifaaDoorUnQU
import Derived.Test.YtmcokdiopcpifaaDoorUnSG
import Derived.Test.YtmcokdiopcpifaaDoorTie
import Derived.Test.YtmcokdiopcpifaaDoorCards
import Derived.SevenTiedAt
set_option maxRecDepth 100000
namespace Go.Proofs.YtmcokdiopcpifaaDoor
open Go.ChangeShapes Go.WideShapes Go.ChangeAt Go.RowKit Pol
set_option maxRecDepth 100000 in
set_option maxHeartbeats 40000000 in
theorem walk_FnUnit (a0 : Option Addr) (len cap : Nat) (w : World) (hcap : len ≤ cap) (HC : Code w.heap.size w a0 len) (hg_zero : Gat w 1 (ixF f0) 1) :
    Calls Tryd.prog 11 #[.slice a0 len cap] w fun e w' => e = .returned (.bool true) ∧ Below w.heap.size w w' := by
  by_cases hbig : 1048576 < len
  · have h1 : (1048576 : Int) < (len : Int) := by omega
    go_enter Tryd.func11, Tryd.ntmps11
    go_wp2
    go_ret
    exact ⟨rfl, Below.refl _ _⟩
  have h1 : ¬ (1048576 : Int) < (len : Int) := by omega
  have HB : Hid (Below w.heap.size w w) := Below.refl _ _
  have HG_zero := Lib.hid hg_zero; clear hg_zero
  go_enter Tryd.func11, Tryd.ntmps11
  go_wp2_with fail
  refine (DrawTableUnit_any a0 len cap _ hcap HC).mono ?_
  rintro e w1 ⟨n, rfl, hb⟩
  have HB := Lib.hid (show Below w.heap.size w w1 from HB.out.trans ((show Below _ _ _ from (Below.refl _ _)).trans (hb.mono (by first | omega | (simp <;> omega)))))
  have hz1 := hb.size
  (try simp at hz1)
  clear hb
  cases hw : wi n (-1000) 1000
  · skip
    obtain ⟨t, ht⟩ : ∃ t, t = m16z := ⟨_, rfl⟩
    have HG : Hid (gUnit n = (t, false)) := by show _ = _; unfold gUnit; rw [hw, ht]; rfl
    clear ht hw
    go_wp2_with fail
    refine (itunit_any n _ (HG_zero.out.below HB.out)).mono ?_
    rintro e w2 ho
    rw [HG.out] at ho
    obtain ⟨rfl, hb⟩ : e = .returned (.tuple #[.agg (cl t.get 16).toArray, .bool false]) ∧ Below _ _ _ := (id ho)
    clear ho
    have HB := Lib.hid (show Below w.heap.size w w2 from HB.out.trans (hb.mono HB.out.size))
    have hz2 := hb.size
    clear hb
    have HD := Lib.hid (Room.new' (w := w2) (N := w2.heap.size) (n := 16) (cs := #[.int .i64 0, .int .i64 0, .int .i64 0, .int .i64 0, .int .i64 0, .int .i64 0, .int .i64 0, .int .i64 0, .int .i64 0, .int .i64 0, .int .i64 0, .int .i64 0, .int .i64 0, .int .i64 0, .int .i64 0, .int .i64 0, .int .i64 0, .int .i64 0, .int .i64 0, .int .i64 0, .int .i64 0, .int .i64 0, .int .i64 0, .int .i64 0, .int .i64 0, .int .i64 0, .int .i64 0, .int .i64 0, .int .i64 0, .int .i64 0, .int .i64 0, .int .i64 0, .int .i64 0, .int .i64 0, .int .i64 0, .int .i64 0, .int .i64 0, .int .i64 0, .int .i64 0, .int .i64 0, .int .i64 0, .int .i64 0, .int .i64 0, .int .i64 0, .int .i64 0, .int .i64 0, .int .i64 0, .int .i64 0]) (t := 26) rfl rfl)
    obtain ⟨V1, hV⟩ : ∃ V, V = ((w2.alloc (.cells #[.int .i64 0, .int .i64 0, .int .i64 0, .int .i64 0, .int .i64 0, .int .i64 0, .int .i64 0, .int .i64 0, .int .i64 0, .int .i64 0, .int .i64 0, .int .i64 0, .int .i64 0, .int .i64 0, .int .i64 0, .int .i64 0, .int .i64 0, .int .i64 0, .int .i64 0, .int .i64 0, .int .i64 0, .int .i64 0, .int .i64 0, .int .i64 0, .int .i64 0, .int .i64 0, .int .i64 0, .int .i64 0, .int .i64 0, .int .i64 0, .int .i64 0, .int .i64 0, .int .i64 0, .int .i64 0, .int .i64 0, .int .i64 0, .int .i64 0, .int .i64 0, .int .i64 0, .int .i64 0, .int .i64 0, .int .i64 0, .int .i64 0, .int .i64 0, .int .i64 0, .int .i64 0, .int .i64 0, .int .i64 0] 26)).setCells w2.heap.size 0 (cl t.get 16)) := ⟨_, rfl⟩
    have HR_V1 : Hid (World.rangeAt V1 w2.heap.size 0 (cl t.get 16)) := by show World.rangeAt _ _ _ _; rw [hV]; exact World.rangeAt_setCells_same _ _ _ _ (HD.out.thereC t.get)
    have hzb := HB.out.size
    have HB : Hid (Below w.heap.size w V1) := by show Below _ _ _; rw [hV]; exact setCells_below _ _ _ (HB.out.alloc hzb _) hzb
    have hz_V1 : V1.heap.size = w2.heap.size + 1 := by rw [hV, setCells_size2]; simp
    go_wp2_with (first | ((with_reducible refine wpList_store_mid ?ktfa1 26 ?ktfax ?ktfay ?ktfa2 (w2.heap.size) 0 (cl t.get 16).toArray ?ktfa3 ?ktfa4 ?ktfa5 ?ktfa6 ?ktfa7 ?ktfa8); (case ktfa2 => rfl); (case ktfa1 => rfl); (case ktfa3 => rfl); (case ktfa4 => rfl); (case ktfa5 => exact (HD.out.thereC _)); (case ktfa6 => kernel_rfl); (case ktfa7 => exact (cl_one _ _))))
    rw [← hV]
    clear hV HD hzb
    refine (stunit_any n _).mono ?_
    rintro e w3 ho
    rw [HG.out] at ho
    obtain ⟨rfl, hb⟩ : e = .returned (.tuple #[.agg (cl t.get 16).toArray, .bool false]) ∧ Below _ _ _ := (id ho)
    clear ho
    have HR_V1 := Lib.hid (rangeAt_below HR_V1.out hb (by omega))
    have HB := Lib.hid (show Below w.heap.size w w3 from HB.out.trans (hb.mono HB.out.size))
    have hz3 := hb.size
    clear hb
    have HD := Lib.hid (Room.new' (w := w3) (N := w3.heap.size) (n := 16) (cs := #[.int .i64 0, .int .i64 0, .int .i64 0, .int .i64 0, .int .i64 0, .int .i64 0, .int .i64 0, .int .i64 0, .int .i64 0, .int .i64 0, .int .i64 0, .int .i64 0, .int .i64 0, .int .i64 0, .int .i64 0, .int .i64 0, .int .i64 0, .int .i64 0, .int .i64 0, .int .i64 0, .int .i64 0, .int .i64 0, .int .i64 0, .int .i64 0, .int .i64 0, .int .i64 0, .int .i64 0, .int .i64 0, .int .i64 0, .int .i64 0, .int .i64 0, .int .i64 0, .int .i64 0, .int .i64 0, .int .i64 0, .int .i64 0, .int .i64 0, .int .i64 0, .int .i64 0, .int .i64 0, .int .i64 0, .int .i64 0, .int .i64 0, .int .i64 0, .int .i64 0, .int .i64 0, .int .i64 0, .int .i64 0]) (t := 26) rfl rfl)
    obtain ⟨w4, hV⟩ : ∃ V, V = ((w3.alloc (.cells #[.int .i64 0, .int .i64 0, .int .i64 0, .int .i64 0, .int .i64 0, .int .i64 0, .int .i64 0, .int .i64 0, .int .i64 0, .int .i64 0, .int .i64 0, .int .i64 0, .int .i64 0, .int .i64 0, .int .i64 0, .int .i64 0, .int .i64 0, .int .i64 0, .int .i64 0, .int .i64 0, .int .i64 0, .int .i64 0, .int .i64 0, .int .i64 0, .int .i64 0, .int .i64 0, .int .i64 0, .int .i64 0, .int .i64 0, .int .i64 0, .int .i64 0, .int .i64 0, .int .i64 0, .int .i64 0, .int .i64 0, .int .i64 0, .int .i64 0, .int .i64 0, .int .i64 0, .int .i64 0, .int .i64 0, .int .i64 0, .int .i64 0, .int .i64 0, .int .i64 0, .int .i64 0, .int .i64 0, .int .i64 0] 26)).setCells w3.heap.size 0 (cl t.get 16)) := ⟨_, rfl⟩
    have HR_w4 : Hid (World.rangeAt w4 w3.heap.size 0 (cl t.get 16)) := by show World.rangeAt _ _ _ _; rw [hV]; exact World.rangeAt_setCells_same _ _ _ _ (HD.out.thereC t.get)
    have HR_V1 : Hid (World.rangeAt w4 (w2.heap.size) 0 (cl t.get 16)) := by show World.rangeAt _ _ _ _; rw [hV]; exact World.rangeAt_setCells_apart (World.rangeAt_alloc HR_V1.out _) _ _ _ (Or.inl (by omega))
    have hzb := HB.out.size
    have HB : Hid (Below w.heap.size w w4) := by show Below _ _ _; rw [hV]; exact setCells_below _ _ _ (HB.out.alloc hzb _) hzb
    have hz_w4 : w4.heap.size = w3.heap.size + 1 := by rw [hV, setCells_size2]; simp
    go_upto_region 6 with (first | ((with_reducible refine wpList_store_mid ?ktfb1 26 ?ktfbx ?ktfby ?ktfb2 (w3.heap.size) 0 (cl t.get 16).toArray ?ktfb3 ?ktfb4 ?ktfb5 ?ktfb6 ?ktfb7 ?ktfb8); (case ktfb2 => rfl); (case ktfb1 => rfl); (case ktfb3 => rfl); (case ktfb4 => rfl); (case ktfb5 => exact (HD.out.thereC _)); (case ktfb6 => kernel_rfl); (case ktfb7 => exact (cl_one _ _))))
    rw [← hV]
    clear hV HD hzb
    have hET : ∀ w, (Op.equalIn 10000 26 (.agg (cl t.get 16).toArray) (.agg (cl t.get 16).toArray)).run Tryd.prog w = .ok true w := eqTab_cl t
    go_wp2_with (first | ((with_reducible refine wpList_load_gd ?kua1 26 ?kuax ?kua2 (w2.heap.size) 0 ?kua3 (cl t.get 16) ?kuad ?kua4 ?kua5 ?kua6 ?kua7 ?kua8); (case kua2 => rfl); (case kua1 => rfl); (case kua3 => rfl); (case kua4 => (exact HR_V1.out)); (case kua5 => exact Tryd.underlying26); (case kua6 => rfl); (case kua7 => kernel_rfl)) | ((with_reducible refine wpList_load_gd ?kub1 26 ?kubx ?kub2 (w2.heap.size) 0 ?kub3 (cl t.get 16) ?kubd ?kub4 ?kub5 ?kub6 ?kub7 ?kub8); (case kub2 => rfl); (case kub1 => rfl); (case kub3 => rfl); (case kub4 => (exact HR_V1.out)); (case kub5 => exact Tryd.underlying26); (case kub6 => rfl); (case kub7 => kernel_rfl)) | ((with_reducible refine wpList_load_gd ?kuc1 26 ?kucx ?kuc2 (w3.heap.size) 0 ?kuc3 (cl t.get 16) ?kucd ?kuc4 ?kuc5 ?kuc6 ?kuc7 ?kuc8); (case kuc2 => rfl); (case kuc1 => rfl); (case kuc3 => rfl); (case kuc4 => (exact HR_w4.out)); (case kuc5 => exact Tryd.underlying26); (case kuc6 => rfl); (case kuc7 => kernel_rfl)) | ((with_reducible refine wpList_load_gd ?kud1 26 ?kudx ?kud2 (w3.heap.size) 0 ?kud3 (cl t.get 16) ?kudd ?kud4 ?kud5 ?kud6 ?kud7 ?kud8); (case kud2 => rfl); (case kud1 => rfl); (case kud3 => rfl); (case kud4 => (exact HR_w4.out)); (case kud5 => exact Tryd.underlying26); (case kud6 => rfl); (case kud7 => kernel_rfl)))
    go_ret
    exact ⟨rfl, (by (repeat' first | (with_reducible exact HB.out) | with_reducible refine setCells_below _ _ _ ?_ (by first | omega | (simp <;> omega)) | with_reducible refine Below.setCell ?_ (by show _ ≤ _; first | omega | (simp <;> omega) | simp) _ | with_reducible refine Below.alloc ?_ (by first | omega | (simp <;> omega)) _ | with_reducible apply Below.drew | with_reducible refine below_drewN ?_ _))⟩
  · skip
    have hb0 : -1000 ≤ n ∧ n ≤ 1000 := by
      unfold wi at hw
      simpa using hw
    obtain ⟨n0, n1⟩ := hb0
    have hta := fun W => itapp_good (m16 ⟨n, 0, 1⟩ ⟨n, 0, 1⟩) uS (uM n) (uA n) (uD n) W (unit_valid n0 n1) (by decide) (unit_0 n0 n1) (unit_p n0 n1) (unit_a n0 n1) unit_m
    have htv := unit_valid n0 n1
    have hti : ∀ W, Calls Tryd.prog 47 #[.agg #[.int .i64 2, .int .i64 0, .int .i64 1, .int .i64 0, .int .i64 0, .int .i64 1, .int .i64 2, .int .i64 0, .int .i64 1, .int .i64 0, .int .i64 0, .int .i64 1], .agg #[.int .i64 n, .int .i64 0, .int .i64 1]] W (M4Out (uM n, true) W) := fun W => by have := itim4_any uS ⟨n, 0, 1⟩ W; rw [unit_tim n0 n1] at this; exact this
    obtain ⟨t, ht⟩ : ∃ t, t = m16 ⟨n, 0, 1⟩ ⟨n, 0, 1⟩ := ⟨_, rfl⟩
    rw [← ht] at hta htv
    have HTA : Hid (∀ W, Calls Tryd.prog 46 #[.agg (cl t.get 16).toArray, .agg #[.int .i64 2, .int .i64 0, .int .i64 1, .int .i64 0, .int .i64 0, .int .i64 1, .int .i64 2, .int .i64 0, .int .i64 1, .int .i64 0, .int .i64 0, .int .i64 1]] W fun e w' => e = .returned (.tuple #[.agg #[.int .i64 (2 * n), .int .i64 0, .int .i64 1, .int .i64 0, .int .i64 0, .int .i64 1, .int .i64 (2 * n), .int .i64 0, .int .i64 1, .int .i64 0, .int .i64 0, .int .i64 1], .bool true]) ∧ Below W.heap.size W w') := fun W => by have := hta W; rw [cl4 (uM n)] at this; exact this
    have HTI := Lib.hid hti
    have HTV := Lib.hid htv
    have HG : Hid (gUnit n = (t, true)) := by show _ = _; unfold gUnit; rw [hw, ht]; rfl
    clear ht hw hta hti htv
    go_wp2_with fail
    refine (itunit_any n _ (HG_zero.out.below HB.out)).mono ?_
    rintro e w2 ho
    rw [HG.out] at ho
    obtain ⟨rfl, hb⟩ : e = .returned (.tuple #[.agg (cl t.get 16).toArray, .bool true]) ∧ Below _ _ _ := (id ho)
    clear ho
    have HB := Lib.hid (show Below w.heap.size w w2 from HB.out.trans (hb.mono HB.out.size))
    have hz2 := hb.size
    clear hb
    have HD := Lib.hid (Room.new' (w := w2) (N := w2.heap.size) (n := 16) (cs := #[.int .i64 0, .int .i64 0, .int .i64 0, .int .i64 0, .int .i64 0, .int .i64 0, .int .i64 0, .int .i64 0, .int .i64 0, .int .i64 0, .int .i64 0, .int .i64 0, .int .i64 0, .int .i64 0, .int .i64 0, .int .i64 0, .int .i64 0, .int .i64 0, .int .i64 0, .int .i64 0, .int .i64 0, .int .i64 0, .int .i64 0, .int .i64 0, .int .i64 0, .int .i64 0, .int .i64 0, .int .i64 0, .int .i64 0, .int .i64 0, .int .i64 0, .int .i64 0, .int .i64 0, .int .i64 0, .int .i64 0, .int .i64 0, .int .i64 0, .int .i64 0, .int .i64 0, .int .i64 0, .int .i64 0, .int .i64 0, .int .i64 0, .int .i64 0, .int .i64 0, .int .i64 0, .int .i64 0, .int .i64 0]) (t := 26) rfl rfl)
    obtain ⟨V1, hV⟩ : ∃ V, V = ((w2.alloc (.cells #[.int .i64 0, .int .i64 0, .int .i64 0, .int .i64 0, .int .i64 0, .int .i64 0, .int .i64 0, .int .i64 0, .int .i64 0, .int .i64 0, .int .i64 0, .int .i64 0, .int .i64 0, .int .i64 0, .int .i64 0, .int .i64 0, .int .i64 0, .int .i64 0, .int .i64 0, .int .i64 0, .int .i64 0, .int .i64 0, .int .i64 0, .int .i64 0, .int .i64 0, .int .i64 0, .int .i64 0, .int .i64 0, .int .i64 0, .int .i64 0, .int .i64 0, .int .i64 0, .int .i64 0, .int .i64 0, .int .i64 0, .int .i64 0, .int .i64 0, .int .i64 0, .int .i64 0, .int .i64 0, .int .i64 0, .int .i64 0, .int .i64 0, .int .i64 0, .int .i64 0, .int .i64 0, .int .i64 0, .int .i64 0] 26)).setCells w2.heap.size 0 (cl t.get 16)) := ⟨_, rfl⟩
    have HR_V1 : Hid (World.rangeAt V1 w2.heap.size 0 (cl t.get 16)) := by show World.rangeAt _ _ _ _; rw [hV]; exact World.rangeAt_setCells_same _ _ _ _ (HD.out.thereC t.get)
    have hzb := HB.out.size
    have HB : Hid (Below w.heap.size w V1) := by show Below _ _ _; rw [hV]; exact setCells_below _ _ _ (HB.out.alloc hzb _) hzb
    have hz_V1 : V1.heap.size = w2.heap.size + 1 := by rw [hV, setCells_size2]; simp
    go_wp2_with (first | ((with_reducible refine wpList_store_mid ?ktta1 26 ?kttax ?kttay ?ktta2 (w2.heap.size) 0 (cl t.get 16).toArray ?ktta3 ?ktta4 ?ktta5 ?ktta6 ?ktta7 ?ktta8); (case ktta2 => rfl); (case ktta1 => rfl); (case ktta3 => rfl); (case ktta4 => rfl); (case ktta5 => exact (HD.out.thereC _)); (case ktta6 => kernel_rfl); (case ktta7 => exact (cl_one _ _))))
    rw [← hV]
    clear hV HD hzb
    refine (stunit_any n _).mono ?_
    rintro e w3 ho
    rw [HG.out] at ho
    obtain ⟨rfl, hb⟩ : e = .returned (.tuple #[.agg (cl t.get 16).toArray, .bool true]) ∧ Below _ _ _ := (id ho)
    clear ho
    have HR_V1 := Lib.hid (rangeAt_below HR_V1.out hb (by omega))
    have HB := Lib.hid (show Below w.heap.size w w3 from HB.out.trans (hb.mono HB.out.size))
    have hz3 := hb.size
    clear hb
    have HD := Lib.hid (Room.new' (w := w3) (N := w3.heap.size) (n := 16) (cs := #[.int .i64 0, .int .i64 0, .int .i64 0, .int .i64 0, .int .i64 0, .int .i64 0, .int .i64 0, .int .i64 0, .int .i64 0, .int .i64 0, .int .i64 0, .int .i64 0, .int .i64 0, .int .i64 0, .int .i64 0, .int .i64 0, .int .i64 0, .int .i64 0, .int .i64 0, .int .i64 0, .int .i64 0, .int .i64 0, .int .i64 0, .int .i64 0, .int .i64 0, .int .i64 0, .int .i64 0, .int .i64 0, .int .i64 0, .int .i64 0, .int .i64 0, .int .i64 0, .int .i64 0, .int .i64 0, .int .i64 0, .int .i64 0, .int .i64 0, .int .i64 0, .int .i64 0, .int .i64 0, .int .i64 0, .int .i64 0, .int .i64 0, .int .i64 0, .int .i64 0, .int .i64 0, .int .i64 0, .int .i64 0]) (t := 26) rfl rfl)
    obtain ⟨w4, hV⟩ : ∃ V, V = ((w3.alloc (.cells #[.int .i64 0, .int .i64 0, .int .i64 0, .int .i64 0, .int .i64 0, .int .i64 0, .int .i64 0, .int .i64 0, .int .i64 0, .int .i64 0, .int .i64 0, .int .i64 0, .int .i64 0, .int .i64 0, .int .i64 0, .int .i64 0, .int .i64 0, .int .i64 0, .int .i64 0, .int .i64 0, .int .i64 0, .int .i64 0, .int .i64 0, .int .i64 0, .int .i64 0, .int .i64 0, .int .i64 0, .int .i64 0, .int .i64 0, .int .i64 0, .int .i64 0, .int .i64 0, .int .i64 0, .int .i64 0, .int .i64 0, .int .i64 0, .int .i64 0, .int .i64 0, .int .i64 0, .int .i64 0, .int .i64 0, .int .i64 0, .int .i64 0, .int .i64 0, .int .i64 0, .int .i64 0, .int .i64 0, .int .i64 0] 26)).setCells w3.heap.size 0 (cl t.get 16)) := ⟨_, rfl⟩
    have HR_w4 : Hid (World.rangeAt w4 w3.heap.size 0 (cl t.get 16)) := by show World.rangeAt _ _ _ _; rw [hV]; exact World.rangeAt_setCells_same _ _ _ _ (HD.out.thereC t.get)
    have HR_V1 : Hid (World.rangeAt w4 (w2.heap.size) 0 (cl t.get 16)) := by show World.rangeAt _ _ _ _; rw [hV]; exact World.rangeAt_setCells_apart (World.rangeAt_alloc HR_V1.out _) _ _ _ (Or.inl (by omega))
    have hzb := HB.out.size
    have HB : Hid (Below w.heap.size w w4) := by show Below _ _ _; rw [hV]; exact setCells_below _ _ _ (HB.out.alloc hzb _) hzb
    have hz_w4 : w4.heap.size = w3.heap.size + 1 := by rw [hV, setCells_size2]; simp
    go_upto_region 6 with (first | ((with_reducible refine wpList_store_mid ?kttb1 26 ?kttbx ?kttby ?kttb2 (w3.heap.size) 0 (cl t.get 16).toArray ?kttb3 ?kttb4 ?kttb5 ?kttb6 ?kttb7 ?kttb8); (case kttb2 => rfl); (case kttb1 => rfl); (case kttb3 => rfl); (case kttb4 => rfl); (case kttb5 => exact (HD.out.thereC _)); (case kttb6 => kernel_rfl); (case kttb7 => exact (cl_one _ _))))
    rw [← hV]
    clear hV HD hzb
    have hET : ∀ w, (Op.equalIn 10000 26 (.agg (cl t.get 16).toArray) (.agg (cl t.get 16).toArray)).run Tryd.prog w = .ok true w := eqTab_cl t
    have Ht := HR_V1
    clear HR_V1
    have nA7 : w2.heap.size < w4.heap.size := by omega
    have nB7 : ¬ w2.heap.size = w4.heap.size := by omega
    have nC7 : ¬ w4.heap.size = w2.heap.size := by omega
    go_wp2_with (first | ((with_reducible refine wpList_load_gd ?kue1 26 ?kuex ?kue2 (w2.heap.size) 0 ?kue3 (cl t.get 16) ?kued ?kue4 ?kue5 ?kue6 ?kue7 ?kue8); (case kue2 => rfl); (case kue1 => rfl); (case kue3 => rfl); (case kue4 => (exact Ht.out)); (case kue5 => exact Tryd.underlying26); (case kue6 => rfl); (case kue7 => kernel_rfl)) | ((with_reducible refine wpList_load_gd ?kuf1 26 ?kufx ?kuf2 (w3.heap.size) 0 ?kuf3 (cl t.get 16) ?kufd ?kuf4 ?kuf5 ?kuf6 ?kuf7 ?kuf8); (case kuf2 => rfl); (case kuf1 => rfl); (case kuf3 => rfl); (case kuf4 => (exact HR_w4.out)); (case kuf5 => exact Tryd.underlying26); (case kuf6 => rfl); (case kuf7 => kernel_rfl)))
    refine (isof_any uJ _).mono ?_
    rintro e w5 ho
    rw [unit_sof] at ho
    obtain ⟨rfl, hb⟩ : e = .returned (.tuple #[.agg #[.int .i64 2, .int .i64 0, .int .i64 1, .int .i64 0, .int .i64 0, .int .i64 1, .int .i64 2, .int .i64 0, .int .i64 1, .int .i64 0, .int .i64 0, .int .i64 1], .bool true]) ∧ Below _ _ _ := ho.fn
    clear ho
    have HB := Lib.hid (show Below w.heap.size w w5 from HB.out.trans ((show Below _ _ _ from (Below.refl _ _)).trans (hb.mono (by first | omega | (simp <;> omega)))))
    have Ht : Hid (w5.rangeAt (w2.heap.size) 0 (cl t.get 16)) := rangeAt_below Ht.out hb (by first | omega | (simp; done) | (simp <;> omega))
    have hz5 := hb.size
    (try simp at hz5)
    clear hb
    have nA7 : w2.heap.size < w5.heap.size := by omega
    have nB7 : ¬ w2.heap.size = w5.heap.size := by omega
    have nC7 : ¬ w5.heap.size = w2.heap.size := by omega
    clear hET HR_w4
    go_wp2_with (first | ((with_reducible refine wpList_load_mid ?kl11 26 ?kl1x ?kl12 (w2.heap.size) 0 ?kl13 (cl t.get 16) ?kl1d ?kl14 ?kl15 ?kl16 ?kl17 ?kl18); (case kl12 => rfl); (case kl11 => rfl); (case kl13 => rfl); (case kl14 => (exact (World.rangeAt_alloc Ht.out _))); (case kl15 => exact Tryd.underlying26); (case kl16 => rfl); (case kl17 => kernel_rfl)) | ((with_reducible refine wpList_load_mid ?kl21 51 ?kl2x ?kl22 (w5.heap.size) 0 ?kl23 [.int .i64 2, .int .i64 0, .int .i64 1, .int .i64 0, .int .i64 0, .int .i64 1, .int .i64 2, .int .i64 0, .int .i64 1, .int .i64 0, .int .i64 0, .int .i64 1] ?kl2d ?kl24 ?kl25 ?kl26 ?kl27 ?kl28); (case kl22 => rfl); (case kl21 => rfl); (case kl23 => rfl); (case kl24 => (exact (rangeAt_new _ _ _))); (case kl25 => exact Tryd.underlying51); (case kl26 => rfl); (case kl27 => kernel_rfl)))
    refine (HTA.out _).mono ?_
    rintro e w6 ho
    obtain ⟨rfl, hb⟩ : e = .returned (.tuple #[.agg #[.int .i64 (2 * n), .int .i64 0, .int .i64 1, .int .i64 0, .int .i64 0, .int .i64 1, .int .i64 (2 * n), .int .i64 0, .int .i64 1, .int .i64 0, .int .i64 0, .int .i64 1], .bool true]) ∧ Below _ _ _ := (id ho)
    clear ho
    have HB := Lib.hid (show Below w.heap.size w w6 from HB.out.trans ((show Below _ _ _ from ((Below.refl _ _).alloc (by first | omega | (simp; done) | (simp <;> omega)) _)).trans (hb.mono (by first | omega | (simp <;> omega)))))
    have Ht : Hid (w6.rangeAt (w2.heap.size) 0 (cl t.get 16)) := rangeAt_below (World.rangeAt_alloc Ht.out _) hb (by first | omega | (simp; done) | (simp <;> omega))
    have Hs : Hid (w6.rangeAt (w5.heap.size) 0 [.int .i64 2, .int .i64 0, .int .i64 1, .int .i64 0, .int .i64 0, .int .i64 1, .int .i64 2, .int .i64 0, .int .i64 1, .int .i64 0, .int .i64 0, .int .i64 1]) := rangeAt_below (rangeAt_new _ _ _) hb (by first | omega | (simp; done) | (simp <;> omega))
    have hz6 := hb.size
    (try simp at hz6)
    clear hb
    have nA7 : w2.heap.size < w6.heap.size := by omega
    have nB7 : ¬ w2.heap.size = w6.heap.size := by omega
    have nC7 : ¬ w6.heap.size = w2.heap.size := by omega
    have nA1 : w5.heap.size < w6.heap.size := by omega
    have nB1 : ¬ w5.heap.size = w6.heap.size := by omega
    have nC1 : ¬ w6.heap.size = w5.heap.size := by omega
    go_wp2_with (first | ((with_reducible refine wpList_load_mid ?kl31 51 ?kl3x ?kl32 (w5.heap.size) 0 ?kl33 [.int .i64 2, .int .i64 0, .int .i64 1, .int .i64 0, .int .i64 0, .int .i64 1, .int .i64 2, .int .i64 0, .int .i64 1, .int .i64 0, .int .i64 0, .int .i64 1] ?kl3d ?kl34 ?kl35 ?kl36 ?kl37 ?kl38); (case kl32 => rfl); (case kl31 => rfl); (case kl33 => rfl); (case kl34 => (exact (World.rangeAt_alloc Hs.out _))); (case kl35 => exact Tryd.underlying51); (case kl36 => rfl); (case kl37 => kernel_rfl)))
    refine (HTI.out _).mono ?_
    rintro e w7 ho
    obtain ⟨rfl, hb⟩ : e = .returned (.tuple #[.agg #[.int .i64 (2 * n), .int .i64 0, .int .i64 1, .int .i64 0, .int .i64 0, .int .i64 1, .int .i64 (2 * n), .int .i64 0, .int .i64 1, .int .i64 0, .int .i64 0, .int .i64 1], .bool true]) ∧ Below _ _ _ := ho.fn
    clear ho
    have HB := Lib.hid (show Below w.heap.size w w7 from HB.out.trans ((show Below _ _ _ from ((Below.refl _ _).alloc (by first | omega | (simp; done) | (simp <;> omega)) _)).trans (hb.mono (by first | omega | (simp <;> omega)))))
    have Ht : Hid (w7.rangeAt (w2.heap.size) 0 (cl t.get 16)) := rangeAt_below (World.rangeAt_alloc Ht.out _) hb (by first | omega | (simp; done) | (simp <;> omega))
    have Hs : Hid (w7.rangeAt (w5.heap.size) 0 [.int .i64 2, .int .i64 0, .int .i64 1, .int .i64 0, .int .i64 0, .int .i64 1, .int .i64 2, .int .i64 0, .int .i64 1, .int .i64 0, .int .i64 0, .int .i64 1]) := rangeAt_below (World.rangeAt_alloc Hs.out _) hb (by first | omega | (simp; done) | (simp <;> omega))
    have Hx : Hid (w7.rangeAt (w6.heap.size) 0 [.int .i64 (2 * n), .int .i64 0, .int .i64 1, .int .i64 0, .int .i64 0, .int .i64 1, .int .i64 (2 * n), .int .i64 0, .int .i64 1, .int .i64 0, .int .i64 0, .int .i64 1]) := rangeAt_below (rangeAt_new _ _ _) hb (by first | omega | (simp; done) | (simp <;> omega))
    have hz7 := hb.size
    (try simp at hz7)
    clear hb
    have nA7 : w2.heap.size < w7.heap.size := by omega
    have nB7 : ¬ w2.heap.size = w7.heap.size := by omega
    have nC7 : ¬ w7.heap.size = w2.heap.size := by omega
    have nA1 : w5.heap.size < w7.heap.size := by omega
    have nB1 : ¬ w5.heap.size = w7.heap.size := by omega
    have nC1 : ¬ w7.heap.size = w5.heap.size := by omega
    have nA2 : w6.heap.size < w7.heap.size := by omega
    have nB2 : ¬ w6.heap.size = w7.heap.size := by omega
    have nC2 : ¬ w7.heap.size = w6.heap.size := by omega
    have zx_0 : w7.cell? ⟨w6.heap.size, 0, none⟩ = some (.int .i64 (2 * n)) := by have := Hx.out 0 _ rfl; rwa [Nat.zero_add] at this
    have zx_1 : w7.cell? ⟨w6.heap.size, 1, none⟩ = some (.int .i64 0) := by have := Hx.out 1 _ rfl; rwa [Nat.zero_add] at this
    have zx_2 : w7.cell? ⟨w6.heap.size, 2, none⟩ = some (.int .i64 1) := by have := Hx.out 2 _ rfl; rwa [Nat.zero_add] at this
    have zx_3 : w7.cell? ⟨w6.heap.size, 3, none⟩ = some (.int .i64 0) := by have := Hx.out 3 _ rfl; rwa [Nat.zero_add] at this
    have zx_4 : w7.cell? ⟨w6.heap.size, 4, none⟩ = some (.int .i64 0) := by have := Hx.out 4 _ rfl; rwa [Nat.zero_add] at this
    have zx_5 : w7.cell? ⟨w6.heap.size, 5, none⟩ = some (.int .i64 1) := by have := Hx.out 5 _ rfl; rwa [Nat.zero_add] at this
    have zx_6 : w7.cell? ⟨w6.heap.size, 6, none⟩ = some (.int .i64 (2 * n)) := by have := Hx.out 6 _ rfl; rwa [Nat.zero_add] at this
    have zx_7 : w7.cell? ⟨w6.heap.size, 7, none⟩ = some (.int .i64 0) := by have := Hx.out 7 _ rfl; rwa [Nat.zero_add] at this
    have zx_8 : w7.cell? ⟨w6.heap.size, 8, none⟩ = some (.int .i64 1) := by have := Hx.out 8 _ rfl; rwa [Nat.zero_add] at this
    have zx_9 : w7.cell? ⟨w6.heap.size, 9, none⟩ = some (.int .i64 0) := by have := Hx.out 9 _ rfl; rwa [Nat.zero_add] at this
    have zx_10 : w7.cell? ⟨w6.heap.size, 10, none⟩ = some (.int .i64 0) := by have := Hx.out 10 _ rfl; rwa [Nat.zero_add] at this
    have zx_11 : w7.cell? ⟨w6.heap.size, 11, none⟩ = some (.int .i64 1) := by have := Hx.out 11 _ rfl; rwa [Nat.zero_add] at this
    have hES : ∀ w, (Op.equalIn 10000 51 (.agg #[.int .i64 (2 * n), .int .i64 0, .int .i64 1, .int .i64 0, .int .i64 0, .int .i64 1, .int .i64 (2 * n), .int .i64 0, .int .i64 1, .int .i64 0, .int .i64 0, .int .i64 1]) (.agg #[.int .i64 (2 * n), .int .i64 0, .int .i64 1, .int .i64 0, .int .i64 0, .int .i64 1, .int .i64 (2 * n), .int .i64 0, .int .i64 1, .int .i64 0, .int .i64 0, .int .i64 1])).run Tryd.prog w = .ok true w := eqStokes_run (uM n)
    go_wp2_with (first | ((with_reducible refine wpList_load_gd ?kug1 26 ?kugx ?kug2 (w2.heap.size) 0 ?kug3 (cl t.get 16) ?kugd ?kug4 ?kug5 ?kug6 ?kug7 ?kug8); (case kug2 => rfl); (case kug1 => rfl); (case kug3 => rfl); (case kug4 => (exact (World.rangeAt_alloc Ht.out _))); (case kug5 => exact Tryd.underlying26); (case kug6 => rfl); (case kug7 => kernel_rfl)))
    refine (itv_cl t _).mono ?_
    rintro e w8 ho
    rw [HTV.out] at ho
    obtain ⟨rfl, hb⟩ : e = .returned (.bool true) ∧ Below _ _ _ := (id ho)
    clear ho
    have HB := Lib.hid (show Below w.heap.size w w8 from HB.out.trans ((show Below _ _ _ from ((Below.refl _ _).alloc (by first | omega | (simp; done) | (simp <;> omega)) _)).trans (hb.mono (by first | omega | (simp <;> omega)))))
    have Ht : Hid (w8.rangeAt (w2.heap.size) 0 (cl t.get 16)) := rangeAt_below (World.rangeAt_alloc Ht.out _) hb (by first | omega | (simp; done) | (simp <;> omega))
    have Hs : Hid (w8.rangeAt (w5.heap.size) 0 [.int .i64 2, .int .i64 0, .int .i64 1, .int .i64 0, .int .i64 0, .int .i64 1, .int .i64 2, .int .i64 0, .int .i64 1, .int .i64 0, .int .i64 0, .int .i64 1]) := rangeAt_below (World.rangeAt_alloc Hs.out _) hb (by first | omega | (simp; done) | (simp <;> omega))
    have Hx : Hid (w8.rangeAt (w6.heap.size) 0 [.int .i64 (2 * n), .int .i64 0, .int .i64 1, .int .i64 0, .int .i64 0, .int .i64 1, .int .i64 (2 * n), .int .i64 0, .int .i64 1, .int .i64 0, .int .i64 0, .int .i64 1]) := rangeAt_below (World.rangeAt_alloc Hx.out _) hb (by first | omega | (simp; done) | (simp <;> omega))
    have Hy : Hid (w8.rangeAt (w7.heap.size) 0 [.int .i64 (2 * n), .int .i64 0, .int .i64 1, .int .i64 0, .int .i64 0, .int .i64 1, .int .i64 (2 * n), .int .i64 0, .int .i64 1, .int .i64 0, .int .i64 0, .int .i64 1]) := rangeAt_below (rangeAt_new _ _ _) hb (by first | omega | (simp; done) | (simp <;> omega))
    have hz8 := hb.size
    (try simp at hz8)
    clear hb
    have nA7 : w2.heap.size < w8.heap.size := by omega
    have nB7 : ¬ w2.heap.size = w8.heap.size := by omega
    have nC7 : ¬ w8.heap.size = w2.heap.size := by omega
    have nA1 : w5.heap.size < w8.heap.size := by omega
    have nB1 : ¬ w5.heap.size = w8.heap.size := by omega
    have nC1 : ¬ w8.heap.size = w5.heap.size := by omega
    have nA2 : w6.heap.size < w8.heap.size := by omega
    have nB2 : ¬ w6.heap.size = w8.heap.size := by omega
    have nC2 : ¬ w8.heap.size = w6.heap.size := by omega
    have nA3 : w7.heap.size < w8.heap.size := by omega
    have nB3 : ¬ w7.heap.size = w8.heap.size := by omega
    have nC3 : ¬ w8.heap.size = w7.heap.size := by omega
    go_wp2_with fail
    go_ret
    exact ⟨rfl, (by (repeat' first | (with_reducible exact HB.out) | with_reducible refine setCells_below _ _ _ ?_ (by first | omega | (simp <;> omega)) | with_reducible refine Below.setCell ?_ (by show _ ≤ _; first | omega | (simp <;> omega) | simp) _ | with_reducible refine Below.alloc ?_ (by first | omega | (simp <;> omega)) _ | with_reducible apply Below.drew | with_reducible refine below_drewN ?_ _))⟩
set_option maxRecDepth 100000 in
theorem door_FnUnit (os : Os) (args : Array Value) : laidMetH Tryd.prog Rows.fnUnitRow.laid ((World.doorLaid Tryd.prog 43 os).forCall (fun _ _ => 0) ⟨#[], args, []⟩).memory :=
  laidMetH_of_parts3 (fuel := 8) (laidMet_of_run' 8 (by kernel_rfl) (by kernel_rfl)) (by kernel_rfl) (by kernel_rfl)
set_option maxRecDepth 100000 in
theorem lifted_FnUnit (os : Os) (started : os.Started) (H : Type) (enc : TypeId × Value → H) :
    ReturnsInHanded {} Tryd.checked os 11 .any (fun w args => (Rows.fnUnitSpec.pre enc Tryd.prog Tryd.f11 [] false w args ∧ laidMetH Tryd.prog Rows.fnUnitRow.laid w) ∧ sizedMet enc Tryd.prog Tryd.f11 (OpenSpec.ofChange Rows.fnUnitSpec) false w args) (Rows.fnUnitSpec.post enc Tryd.prog Tryd.f11 false true false false) := by
  refine returnsInHanded_of_change_and (C := Tryd.checked) (X := fun w _ => laidMetH Tryd.prog Rows.fnUnitRow.laid w) (fun _ _ _ hh h => h.of_heap hh) Tryd.own started (by kernel_rfl) Tryd.func11
    (ChangeSpec.witness_shaped (enc := enc) (C := Tryd.checked) (os := os) (X := fun w _ => laidMetH Tryd.prog Rows.fnUnitRow.laid w) false (World.doorLaid Tryd.prog 43 os) #[.slice none 0 0] 8 rfl (World.shaped_of_RefB (by kernel_rfl) (by kernel_rfl)) (by kernel_rfl) (by kernel_rfl) (by kernel_rfl) (door_FnUnit os _)) ?_
  intro W base args ds gs before hval0 hW _ _ hL _
  have hval : ∀ (j : Nat) t v, Tryd.f11.params[j]? = some t → args[j]? = some v → Value.okWide Tryd.prog W .any base t v := hval0
  have hW' := hW
  obtain ⟨p, q, hA0, hV, rfl, hfz, hnd⟩ := hW
  have hA : DataW.TrodAll enc Tryd.prog W 0 (fun _ => true) true Tryd.f11.params.toList args.toList ds p := hA0
  rw [Tryd.params11] at hA hval
  obtain ⟨v0, d0, rfl, rfl, h0⟩ := trodAll_one hA
  obtain ⟨g0, rfl⟩ := len1 (vars_len hV)
  have hG_zero := gat_zero hL (by decide) (by simp [Rows.fnUnitRow, Rows.laid_loop_example_polarisedlight_impl_zero])
  have h0k := h0
  obtain ⟨fuel, hf⟩ := h0
  clear hA0 hval0
  have hlt : ∀ x ∈ p, x.block < W.heap.size := fun x hx => by simpa using hW'.lt x (List.mem_append_left _ hx)
  obtain ⟨a0, len, cap, rfl⟩ := okWide_slice Tryd.underlying55 (hval 0 55 v0 rfl rfl)
  obtain ⟨hcap, HC⟩ := open_code hf hlt
  refine (walk_FnUnit a0 len cap W hcap HC hG_zero).mono fun e W' ⟨he, hb⟩ => ?_
  subst he
  refine ⟨_, rfl, _, _, _, [], p, q, hW', trodAll_mk1 (shut_bool Tryd.underlying4 _), trodAll_mk1 (Below.trod Tryd.laidOut (by kernel_rfl) (of_decide_eq_true (by kernel_rfl)) h0k hb (fun x hx => hlt x (by simp [hx]))), Below.trodVars Tryd.laidOut hb (by kernel_rfl) hV, hb.frame _, fun h => by cases h⟩
theorem said_FnUnit : Rows.FnUnitSaid :=
  OpenClaim.holds_of_wide 11 Tryd.f11 rfl rfl rfl rfl rfl rfl rfl ⟨rfl, rfl, rfl, rfl, rfl⟩ rfl rfl rfl rfl rfl (by kernel_rfl) Tryd.func11 (by kernel_rfl)
    (of_decide_eq_true (by kernel_rfl)) (by unfold Func.isWrapper; first | (rw [if_pos (by decide +kernel)]; kernel_rfl) | (rw [if_neg (by decide +kernel)]; exact ⟨rfl, rfl⟩))
    (fun os started H enc _ => lifted_FnUnit os started H enc)
set_option maxRecDepth 100000 in
/-- THE STATEMENT: THE CARD. -/
theorem holds_FnUnit : Rows.FnUnitCardSaid :=
  Claim7.holds_tied_plain_at .later [] [.data] true (true, "4641a63997bae2f3f605d4183781842987cd6e93f60671f0fe7f4fb0ecf64798") false
    said_FnUnit (fun _ h => by cases h) (by kernel_rfl) (fun _ h => by cases h) fnUnit_row_tie rfl ⟨rfl, rfl⟩ (by kernel_rfl) rfl
    (fun f fn hf hfn => by
      obtain rfl : f = 11 := Option.some.inj ((show Tryd.prog.funcNamed "loop.example/polarisedlight/laws.FnUnit" = some 11 by kernel_rfl).symm.trans hf) |>.symm
      obtain rfl : fn = Tryd.f11 := (Option.some.inj (Tryd.func11.symm.trans hfn)).symm
      exact ⟨by kernel_rfl, fun j t ht => by
        rw [Tryd.params11] at ht
        have hm : t ∈ [55] := by simpa using Array.mem_of_getElem? ht
        have hall : ([55].all fun u => !Tryd.prog.wantsStandIn u) = true := by kernel_rfl
        exact (show Tryd.prog.wantsStandIn t = false by simpa using List.all_eq_true.1 hall t hm)⟩)
    (by kernel_rfl)
end Go.Proofs.YtmcokdiopcpifaaDoor
