/- Contract: alike vectors, the program's side. -/
import Derived.Test.YtmcokdiopcpifaaDoorMsG23
import Derived.Deep.DeepCutAuto
set_option maxRecDepth 100000
namespace Go.Proofs.YtmcokdiopcpifaaDoor
open Go.RowKit Pol
set_option maxRecDepth 100000 in
set_option maxHeartbeats 40000000 in
theorem ijal_any (a b : J2) (w : World) (hg_zero : Gat w 1 (ixF f0) 1) :
    Calls Tryd.prog 34 #[.agg #[.int .i64 a.x.re, .int .i64 a.x.im, .int .i64 a.x.den, .int .i64 a.y.re, .int .i64 a.y.im, .int .i64 a.y.den], .agg #[.int .i64 b.x.re, .int .i64 b.x.im, .int .i64 b.x.den, .int .i64 b.y.re, .int .i64 b.y.im, .int .i64 b.y.den]] w fun e w' => e = .returned (.bool (gJAl a b)) ∧ Below w.heap.size w w' := by
  have HZ := Lib.hid hg_zero; clear hg_zero
  have K0 : Hid (CN w (w.heap.size + 1 + 1) false (w.heap.size + 1 + 1 + 1) [(w.heap.size + 1, 2, j2k b), (w.heap.size, 2, j2k a)] (((w.alloc (.cells #[.int .i64 a.x.re, .int .i64 a.x.im, .int .i64 a.x.den, .int .i64 a.y.re, .int .i64 a.y.im, .int .i64 a.y.den] 47)).alloc (.cells #[.int .i64 b.x.re, .int .i64 b.x.im, .int .i64 b.x.den, .int .i64 b.y.re, .int .i64 b.y.im, .int .i64 b.y.den] 47)).alloc (.cells #[.bool false] 102))) := by
    show CN _ _ _ _ _ _
    refine ⟨by (repeat' first | exact Below.refl _ _ | apply bl_alloc | apply bl_drewN | apply bl_drew | refine bl_trans ?_ (by assumption) | refine bl_set ?_ (by first | omega | (simp <;> omega)) _), by omega, by omega, by simp, by simp [go_sem], by simp [go_sem], fun e he => ?_⟩
    rcases List.mem_cons.1 he with rfl | he
    · exact ⟨by show w.heap.size + 1 < _; omega, by show w.heap.size + 1 ≠ _; omega, (BoxAt.new' (by simp) (srcJ b)).alloc (by simp) _⟩
    · obtain rfl := List.mem_singleton.1 he
      exact ⟨by show w.heap.size < _; omega, by show w.heap.size ≠ _; omega, ((BoxAt.new _ _ _ _ _ (srcJ a)).alloc (by simp) _).alloc (by simp) _⟩
  go_enter Tryd.func34, Tryd.ntmps34
  go_upto_region 1 with fail
  go_cut [5] (fun s5 wx => s5 = .pointer (some ⟨w.heap.size + 1 + 1, 0, none⟩) ∧ CN w (w.heap.size + 1 + 1) (false || !(jv a && jv b)) (w.heap.size + 1 + 1 + 1) [(w.heap.size + 1, 2, j2k b), (w.heap.size, 2, j2k a)] wx)
  case first =>
    cases ha : jv a
    · go_wp2_with fail
      refine (ijv_any a _).mono ?_
      rintro e w1 ⟨rfl, hb⟩
      rw [ha]
      have K0 := Lib.hid (K0.out.next hb)
      clear hb
      go_wp2_with fail
      refine (need_any (w.heap.size + 1 + 1) false false w1 (by have := K0.out.hB; omega) K0.out.cell K0.out.free).mono ?_
      rintro e w2 ho
      obtain ⟨rfl, hs⟩ := ho.fn
      have K0 := Lib.hid (K0.out.sm hs)
      clear hs ho
      go_wp2_with fail
      go_meet
      exact ⟨rfl, by rw [ha]; exact K0.out⟩
    · go_wp2_with fail
      refine (ijv_any a _).mono ?_
      rintro e w1 ⟨rfl, hb⟩
      rw [ha]
      have K0 := Lib.hid (K0.out.next hb)
      obtain ⟨b0, b1, b2, b3, b4, b5⟩ := (K0.out.box (w.heap.size + 1, 2, j2k b) (by simp)).2.2.j6
      clear hb
      go_wp2_with fail
      refine (ijv_any b _).mono ?_
      rintro e w2 ⟨rfl, hb⟩
      have K0 := Lib.hid (K0.out.next hb)
      clear hb b0 b1 b2 b3 b4 b5
      go_wp2_with fail
      refine (need_any (w.heap.size + 1 + 1) false (jv b) w2 (by have := K0.out.hB; omega) K0.out.cell K0.out.free).mono ?_
      rintro e w3 ho
      obtain ⟨rfl, hs⟩ := ho.fn
      have K0 := Lib.hid (K0.out.sm hs)
      clear hs ho
      go_wp2_with fail
      go_meet
      exact ⟨rfl, by rw [ha, Bool.true_and]; exact K0.out⟩
  case rest =>
  clear K0
  obtain ⟨rfl, hK⟩ := hcut
  have K0 := Lib.hid hK
  have hB := K0.out.hB
  clear hK
  go_upto_region 2 with fail
  go_cut [6, 7] (fun s6 s7 wx => ∃ X Y : Nat, s6 = .pointer (some ⟨X, 0, none⟩) ∧ s7 = .pointer (some ⟨Y, 0, none⟩) ∧ CN w (w.heap.size + 1 + 1) (((false || !(jv a && jv b)) || !(fTimes a.x b.y).2) || !(fTimes a.y b.x).2) wx.heap.size ((X, 1, fun _ => (fTimes a.x b.y).1) :: (Y, 1, fun _ => (fTimes a.y b.x).1) :: [(w.heap.size + 1, 2, j2k b), (w.heap.size, 2, j2k a)]) wx)
  case first =>
    go_region_held3 (fun w' => (w'.cell? ⟨w.heap.size, 0, none⟩ = some (.int .i64 a.x.re) ∧ w'.cell? ⟨w.heap.size, 1, none⟩ = some (.int .i64 a.x.im) ∧ w'.cell? ⟨w.heap.size, 2, none⟩ = some (.int .i64 a.x.den) ∧ w'.cell? ⟨w.heap.size, 3, none⟩ = some (.int .i64 a.y.re) ∧ w'.cell? ⟨w.heap.size, 4, none⟩ = some (.int .i64 a.y.im) ∧ w'.cell? ⟨w.heap.size, 5, none⟩ = some (.int .i64 a.y.den)) ∧ (w'.cell? ⟨w.heap.size + 1, 0, none⟩ = some (.int .i64 b.x.re) ∧ w'.cell? ⟨w.heap.size + 1, 1, none⟩ = some (.int .i64 b.x.im) ∧ w'.cell? ⟨w.heap.size + 1, 2, none⟩ = some (.int .i64 b.x.den) ∧ w'.cell? ⟨w.heap.size + 1, 3, none⟩ = some (.int .i64 b.y.re) ∧ w'.cell? ⟨w.heap.size + 1, 4, none⟩ = some (.int .i64 b.y.im) ∧ w'.cell? ⟨w.heap.size + 1, 5, none⟩ = some (.int .i64 b.y.den))) (((try dsimp only); (first | (with_reducible refine CN.jj (v := (false || !(jv a && jv b))) (w := w) (P := w.heap.size + 1 + 1) (B := w.heap.size + 1 + 1 + 1) (L := [(w.heap.size + 1, 2, j2k b), (w.heap.size, 2, j2k a)]) (by simp) (by simp) ?_; (focus ((repeat' first | (with_reducible exact K9.out) | (with_reducible exact K8.out) | (with_reducible exact K7.out) | (with_reducible exact K6.out) | (with_reducible exact K5.out) | (with_reducible exact K4.out) | (with_reducible exact K3.out) | (with_reducible exact K2.out) | (with_reducible exact K1.out) | (with_reducible exact K0.out) | (with_reducible refine CN.alloc ?_ _) | (with_reducible refine CN.drew ?_) | (with_reducible refine CN.set ?_ ?_ _; rotate_left; (focus (first | omega | (simp <;> omega))))); done))) | (with_reducible refine CN.jj (v := ((false || !(jv a && jv b)) || !(fTimes a.x b.y).2)) (w := w) (P := w.heap.size + 1 + 1) (B := w.heap.size + 1 + 1 + 1) (L := [(w.heap.size + 1, 2, j2k b), (w.heap.size, 2, j2k a)]) (by simp) (by simp) ?_; (focus ((repeat' first | (with_reducible exact K9.out) | (with_reducible exact K8.out) | (with_reducible exact K7.out) | (with_reducible exact K6.out) | (with_reducible exact K5.out) | (with_reducible exact K4.out) | (with_reducible exact K3.out) | (with_reducible exact K2.out) | (with_reducible exact K1.out) | (with_reducible exact K0.out) | (with_reducible refine CN.alloc ?_ _) | (with_reducible refine CN.drew ?_) | (with_reducible refine CN.set ?_ ?_ _; rotate_left; (focus (first | omega | (simp <;> omega))))); done))) | (with_reducible refine CN.jj (v := (((false || !(jv a && jv b)) || !(fTimes a.x b.y).2) || !(fTimes a.y b.x).2)) (w := w) (P := w.heap.size + 1 + 1) (B := w.heap.size + 1 + 1 + 1) (L := [(w.heap.size + 1, 2, j2k b), (w.heap.size, 2, j2k a)]) (by simp) (by simp) ?_; (focus ((repeat' first | (with_reducible exact K9.out) | (with_reducible exact K8.out) | (with_reducible exact K7.out) | (with_reducible exact K6.out) | (with_reducible exact K5.out) | (with_reducible exact K4.out) | (with_reducible exact K3.out) | (with_reducible exact K2.out) | (with_reducible exact K1.out) | (with_reducible exact K0.out) | (with_reducible refine CN.alloc ?_ _) | (with_reducible refine CN.drew ?_) | (with_reducible refine CN.set ?_ ?_ _; rotate_left; (focus (first | omega | (simp <;> omega))))); done)))))) (first | ((have hneed := K1.out; clear hneed); go_at_call 80; (with_reducible refine Calls.mono (cn_call (v := ((false || !(jv a && jv b)) || !(fTimes a.x b.y).2)) (w := w) (P := w.heap.size + 1 + 1) (B := w.heap.size + 1 + 1 + 1) (L := [(w.heap.size + 1, 2, j2k b), (w.heap.size, 2, j2k a)]) ?_ (stimes_any (w.heap.size + 1 + 1) ((false || !(jv a && jv b)) || !(fTimes a.x b.y).2) a.y b.x _)) ?_); (focus ((repeat' first | (with_reducible exact K9.out) | (with_reducible exact K8.out) | (with_reducible exact K7.out) | (with_reducible exact K6.out) | (with_reducible exact K5.out) | (with_reducible exact K4.out) | (with_reducible exact K3.out) | (with_reducible exact K2.out) | (with_reducible exact K1.out) | (with_reducible exact K0.out) | (with_reducible refine CN.alloc ?_ _) | (with_reducible refine CN.drew ?_) | (with_reducible refine CN.set ?_ ?_ _; rotate_left; (focus (first | omega | (simp <;> omega))))); done)); rintro e w6 ⟨rfl, hs, hK⟩; have HS2 := Lib.hid hs; have K2 := Lib.hid hK; have hz2 := hs.size; (try simp at hz2); obtain ⟨BB, hBB, hcc, hff⟩ := hs.out2; (try simp at hBB); (first | (rcases Nat.lt_or_ge (wc.heap.size) BB with hlt | hlt; rotate_left; (exfalso; omega); have yc := hcc (wc.heap.size) hlt (by omega); have yf := hff (wc.heap.size) hlt (by omega); have kl : wc.heap.size < w6.heap.size := (by omega); have kn : ¬ wc.heap.size = w6.heap.size := (by omega); have km : ¬ w6.heap.size = wc.heap.size := (by omega); clear hlt) | skip); (first | (rcases Nat.lt_or_ge (wc.heap.size + 1) BB with hlt | hlt; rotate_left; (exfalso; omega); have yc := hcc (wc.heap.size + 1) hlt (by omega); have yf := hff (wc.heap.size + 1) hlt (by omega); have kl : wc.heap.size + 1 < w6.heap.size := (by omega); have kn : ¬ wc.heap.size + 1 = w6.heap.size := (by omega); have km : ¬ w6.heap.size = wc.heap.size + 1 := (by omega); clear hlt) | skip); (first | (rcases Nat.lt_or_ge (w5.heap.size) BB with hlt | hlt; rotate_left; (exfalso; omega); have yc := hcc (w5.heap.size) hlt (by omega); have yf := hff (w5.heap.size) hlt (by omega); have kl : w5.heap.size < w6.heap.size := (by omega); have kn : ¬ w5.heap.size = w6.heap.size := (by omega); have km : ¬ w6.heap.size = w5.heap.size := (by omega); clear hlt) | skip); (first | (rcases Nat.lt_or_ge (w5.heap.size + 1) BB with hlt | hlt; rotate_left; (exfalso; omega); have yc := hcc (w5.heap.size + 1) hlt (by omega); have yf := hff (w5.heap.size + 1) hlt (by omega); have kl : w5.heap.size + 1 < w6.heap.size := (by omega); have kn : ¬ w5.heap.size + 1 = w6.heap.size := (by omega); have km : ¬ w6.heap.size = w5.heap.size + 1 := (by omega); clear hlt) | skip); clear hBB hcc hff; clear hs hK) | (go_at_call 80; (with_reducible refine Calls.mono (cn_call (v := (false || !(jv a && jv b))) (w := w) (P := w.heap.size + 1 + 1) (B := w.heap.size + 1 + 1 + 1) (L := [(w.heap.size + 1, 2, j2k b), (w.heap.size, 2, j2k a)]) ?_ (stimes_any (w.heap.size + 1 + 1) (false || !(jv a && jv b)) a.x b.y _)) ?_); (focus ((repeat' first | (with_reducible exact K9.out) | (with_reducible exact K8.out) | (with_reducible exact K7.out) | (with_reducible exact K6.out) | (with_reducible exact K5.out) | (with_reducible exact K4.out) | (with_reducible exact K3.out) | (with_reducible exact K2.out) | (with_reducible exact K1.out) | (with_reducible exact K0.out) | (with_reducible refine CN.alloc ?_ _) | (with_reducible refine CN.drew ?_) | (with_reducible refine CN.set ?_ ?_ _; rotate_left; (focus (first | omega | (simp <;> omega))))); done)); rintro e w5 ⟨rfl, hs, hK⟩; have HS1 := Lib.hid hs; have K1 := Lib.hid hK; have hz1 := hs.size; (try simp at hz1); obtain ⟨BB, hBB, hcc, hff⟩ := hs.out2; (try simp at hBB); (first | (rcases Nat.lt_or_ge (wc.heap.size) BB with hlt | hlt; rotate_left; (exfalso; omega); have yc := hcc (wc.heap.size) hlt (by omega); have yf := hff (wc.heap.size) hlt (by omega); have kl : wc.heap.size < w5.heap.size := (by omega); have kn : ¬ wc.heap.size = w5.heap.size := (by omega); have km : ¬ w5.heap.size = wc.heap.size := (by omega); clear hlt) | skip); (first | (rcases Nat.lt_or_ge (wc.heap.size + 1) BB with hlt | hlt; rotate_left; (exfalso; omega); have yc := hcc (wc.heap.size + 1) hlt (by omega); have yf := hff (wc.heap.size + 1) hlt (by omega); have kl : wc.heap.size + 1 < w5.heap.size := (by omega); have kn : ¬ wc.heap.size + 1 = w5.heap.size := (by omega); have km : ¬ w5.heap.size = wc.heap.size + 1 := (by omega); clear hlt) | skip); clear hBB hcc hff; clear hs hK))
    all_goals (go_wp2_with fail; go_meet)
    all_goals (refine ⟨_, _, rfl, rfl, CN.more2 (B := w.heap.size + 1 + 1 + 1) (v := (((false || !(jv a && jv b)) || !(fTimes a.x b.y).2) || !(fTimes a.y b.x).2)) ?_ ?_ ?_ ?_ ?_ ?_ ?_⟩; (focus ((repeat' first | (with_reducible exact K9.out) | (with_reducible exact K8.out) | (with_reducible exact K7.out) | (with_reducible exact K6.out) | (with_reducible exact K5.out) | (with_reducible exact K4.out) | (with_reducible exact K3.out) | (with_reducible exact K2.out) | (with_reducible exact K1.out) | (with_reducible exact K0.out) | (with_reducible refine CN.alloc ?_ _) | (with_reducible refine CN.drew ?_) | (with_reducible refine CN.set ?_ ?_ _; rotate_left; (focus (first | omega | (simp <;> omega))))); done)); (focus (first | omega | (simp <;> omega))); (focus (first | omega | (simp <;> omega))); (focus ((repeat' first | (with_reducible exact boxN rfl) | (with_reducible refine boxN ?_; simp; done) | (with_reducible refine box1 ?_) | (with_reducible refine BoxAt.far ?_ ?_; rotate_left; (focus (first | omega | (simp <;> omega)))) | (with_reducible refine BoxAt.alloc ?_ ?_ _; rotate_left; (focus (first | omega | (simp <;> omega)))) | (with_reducible refine BoxAt.sm ?_ HS2.out ?_ ?_; rotate_left; (focus (first | omega | (simp <;> omega))); (focus (first | omega | (simp <;> omega)))) | (with_reducible refine BoxAt.sm ?_ HS1.out ?_ ?_; rotate_left; (focus (first | omega | (simp <;> omega))); (focus (first | omega | (simp <;> omega)))) | (with_reducible exact Room.new' rfl rfl) | (with_reducible refine Room.new' ?_ rfl; simp; done) | (with_reducible refine Room.set ?_ _ _) | (with_reducible refine Room.alloc ?_ ?_ _; rotate_left; (focus (first | omega | (simp <;> omega)))) | (with_reducible refine Room.sm ?_ HS2.out ?_ ?_; rotate_left; (focus (first | omega | (simp <;> omega))); (focus (first | omega | (simp <;> omega)))) | (with_reducible refine Room.sm ?_ HS1.out ?_ ?_; rotate_left; (focus (first | omega | (simp <;> omega))); (focus (first | omega | (simp <;> omega)))) | (with_reducible refine Room.drew ?_)); done)); (focus (first | omega | (simp <;> omega))); (focus (first | omega | (simp <;> omega))); (focus ((repeat' first | (with_reducible exact boxN rfl) | (with_reducible refine boxN ?_; simp; done) | (with_reducible refine box1 ?_) | (with_reducible refine BoxAt.far ?_ ?_; rotate_left; (focus (first | omega | (simp <;> omega)))) | (with_reducible refine BoxAt.alloc ?_ ?_ _; rotate_left; (focus (first | omega | (simp <;> omega)))) | (with_reducible refine BoxAt.sm ?_ HS2.out ?_ ?_; rotate_left; (focus (first | omega | (simp <;> omega))); (focus (first | omega | (simp <;> omega)))) | (with_reducible refine BoxAt.sm ?_ HS1.out ?_ ?_; rotate_left; (focus (first | omega | (simp <;> omega))); (focus (first | omega | (simp <;> omega)))) | (with_reducible exact Room.new' rfl rfl) | (with_reducible refine Room.new' ?_ rfl; simp; done) | (with_reducible refine Room.set ?_ _ _) | (with_reducible refine Room.alloc ?_ ?_ _; rotate_left; (focus (first | omega | (simp <;> omega)))) | (with_reducible refine Room.sm ?_ HS2.out ?_ ?_; rotate_left; (focus (first | omega | (simp <;> omega))); (focus (first | omega | (simp <;> omega)))) | (with_reducible refine Room.sm ?_ HS1.out ?_ ?_; rotate_left; (focus (first | omega | (simp <;> omega))); (focus (first | omega | (simp <;> omega)))) | (with_reducible refine Room.drew ?_)); done)))
  case rest =>
  clear K0
  obtain ⟨X, Y, rfl, rfl, hK⟩ := hcut
  have K0 := Lib.hid hK.drew
  clear hK
  have key : (((false || !(jv a && jv b)) || !(fTimes a.x b.y).2) || !(fTimes a.y b.x).2) = !((fTimes a.x b.y).2 && (fTimes a.y b.x).2) := by
    cases h1 : (fTimes a.x b.y).2
    · simp
    · cases h2 : (fTimes a.y b.x).2
      · simp
      · obtain ⟨h3, h4⟩ := gJAl_jv h1 h2
        rw [h3, h4]; rfl
  rw [key] at K0
  cases hv : ((fTimes a.x b.y).2 && (fTimes a.y b.x).2)
  · have hbad : gJAl a b = false := by
      cases h1 : (fTimes a.x b.y).2
      · exact gJAl_bad1 h1
      · rw [h1] at hv; exact gJAl_bad2 (by simpa using hv)
    have HG : Hid (gJAl a b = false) := hbad
    rw [hv] at K0
    go_upto_region 3 with fail
    refine wp_region_held_drew (S := (fun w' => (w'.cell? ⟨w.heap.size + 1 + 1, 0, none⟩ = some (.bool true)) ∧ (w'.cell? ⟨X, 0, none⟩ = some (.int .i64 (fTimes a.x b.y).1.re) ∧ w'.cell? ⟨X, 1, none⟩ = some (.int .i64 (fTimes a.x b.y).1.im) ∧ w'.cell? ⟨X, 2, none⟩ = some (.int .i64 (fTimes a.x b.y).1.den)) ∧ (w'.cell? ⟨Y, 0, none⟩ = some (.int .i64 (fTimes a.y b.x).1.re) ∧ w'.cell? ⟨Y, 1, none⟩ = some (.int .i64 (fTimes a.y b.x).1.im) ∧ w'.cell? ⟨Y, 2, none⟩ = some (.int .i64 (fTimes a.y b.x).1.den)) ∧ (w'.cell? ⟨w.heap.size, 0, none⟩ = some (.int .i64 a.x.re) ∧ w'.cell? ⟨w.heap.size, 1, none⟩ = some (.int .i64 a.x.im) ∧ w'.cell? ⟨w.heap.size, 2, none⟩ = some (.int .i64 a.x.den) ∧ w'.cell? ⟨w.heap.size, 3, none⟩ = some (.int .i64 a.y.re) ∧ w'.cell? ⟨w.heap.size, 4, none⟩ = some (.int .i64 a.y.im) ∧ w'.cell? ⟨w.heap.size, 5, none⟩ = some (.int .i64 a.y.den)) ∧ (w'.cell? ⟨w.heap.size + 1, 0, none⟩ = some (.int .i64 b.x.re) ∧ w'.cell? ⟨w.heap.size + 1, 1, none⟩ = some (.int .i64 b.x.im) ∧ w'.cell? ⟨w.heap.size + 1, 2, none⟩ = some (.int .i64 b.x.den) ∧ w'.cell? ⟨w.heap.size + 1, 3, none⟩ = some (.int .i64 b.y.re) ∧ w'.cell? ⟨w.heap.size + 1, 4, none⟩ = some (.int .i64 b.y.im) ∧ w'.cell? ⟨w.heap.size + 1, 5, none⟩ = some (.int .i64 b.y.den)))) (by kernel_rfl) ⟨K0.out.cell, (K0.out.box (X, 1, fun _ => (fTimes a.x b.y).1) (by simp)).2.2.f3, (K0.out.box (Y, 1, fun _ => (fTimes a.y b.x).1) (by simp)).2.2.f3, (K0.out.box (w.heap.size, 2, j2k a) (by simp)).2.2.j6, (K0.out.box (w.heap.size + 1, 2, j2k b) (by simp)).2.2.j6⟩ (fun hHeld => ?_)
    refine wpAnyH_take (i := 0) (v := ?_) rfl (by kernel_rfl) (by kernel_rfl) (by kernel_rfl) (fun _ _ _ h => h) (Or.inl ⟨by rfl, ?_⟩) (by assumption) ?_
    rotate_left
    (focus (intro w hSw; (try dsimp only at hSw); go_simp; (try with_reducible rfl)))
    (try simp only [Act.put, List.getElem_toArray, List.getElem_cons_zero, List.setIfInBounds_toArray, List.set_cons_zero, List.set_cons_succ])
    refine wpAnyH_take (i := 1) (v := ?_) rfl (by kernel_rfl) (by kernel_rfl) (by kernel_rfl) (fun _ _ _ h => h) (Or.inl ⟨by rfl, ?_⟩) (by assumption) ?_
    rotate_left
    (focus (intro w hSw; (try dsimp only at hSw); go_simp; (try with_reducible rfl)))
    (try simp only [Act.put, List.getElem_toArray, List.getElem_cons_succ, List.getElem_cons_zero, List.setIfInBounds_toArray, List.set_cons_zero, List.set_cons_succ])
    refine wpAnyH_take (i := 2) (v := ?_) rfl (by kernel_rfl) (by kernel_rfl) (by kernel_rfl) (fun _ _ _ h => h) (Or.inl ⟨by rfl, ?_⟩) (by assumption) ?_
    rotate_left
    (focus (intro w hSw; (try dsimp only at hSw); go_simp; (try with_reducible rfl)))
    (try simp only [Act.put, List.getElem_toArray, List.getElem_cons_succ, List.getElem_cons_zero, List.setIfInBounds_toArray, List.set_cons_zero, List.set_cons_succ])
    refine wpAnyH_take (i := 3) (v := ?_) rfl (by kernel_rfl) (by kernel_rfl) (by kernel_rfl) (fun _ _ _ h => h) (Or.inl ⟨by rfl, ?_⟩) (by assumption) ?_
    rotate_left
    (focus (intro w hSw; (try dsimp only at hSw); go_simp; (try with_reducible rfl)))
    (try simp only [Act.put, List.getElem_toArray, List.getElem_cons_succ, List.getElem_cons_zero, List.setIfInBounds_toArray, List.set_cons_zero, List.set_cons_succ])
    refine wpAnyH_take (i := 4) (v := ?_) rfl (by kernel_rfl) (by kernel_rfl) (by kernel_rfl) (fun _ _ _ h => h) (Or.inl ⟨by rfl, ?_⟩) (by assumption) ?_
    rotate_left
    (focus (intro w hSw; (try dsimp only at hSw); go_simp; (try with_reducible rfl)))
    (try simp only [Act.put, List.getElem_toArray, List.getElem_cons_succ, List.getElem_cons_zero, List.setIfInBounds_toArray, List.set_cons_zero, List.set_cons_succ])
    refine wpAnyH_take (i := 5) (v := ?_) rfl (by kernel_rfl) (by kernel_rfl) (by kernel_rfl) (fun _ _ _ h => h) (Or.inl ⟨by rfl, ?_⟩) (by assumption) ?_
    rotate_left
    (focus (intro w hSw; (try dsimp only at hSw); go_simp; (try with_reducible rfl)))
    (try simp only [Act.put, List.getElem_toArray, List.getElem_cons_succ, List.getElem_cons_zero, List.setIfInBounds_toArray, List.set_cons_zero, List.set_cons_succ])
    refine wpAnyH_take (i := 6) rfl (by kernel_rfl) (by kernel_rfl) (by kernel_rfl) (fun _ _ _ h => h) (Or.inr ⟨by rfl, rfl⟩) (by assumption) ?_
    (try simp only [Act.put, List.getElem_toArray, List.getElem_cons_succ, List.getElem_cons_zero, List.setIfInBounds_toArray, List.set_cons_zero, List.set_cons_succ])
    refine wpAnyH_take (i := 7) rfl (by kernel_rfl) (by kernel_rfl) (by kernel_rfl) (fun _ _ _ h => h) (Or.inr ⟨by rfl, rfl⟩) (by assumption) ?_
    (try simp only [Act.put, List.getElem_toArray, List.getElem_cons_succ, List.getElem_cons_zero, List.setIfInBounds_toArray, List.set_cons_zero, List.set_cons_succ])
    refine wpAnyH_take (i := 8) rfl (by kernel_rfl) (by kernel_rfl) (by kernel_rfl) (fun _ _ _ h => h) (Or.inr ⟨by rfl, rfl⟩) (by assumption) ?_
    (try simp only [Act.put, List.getElem_toArray, List.getElem_cons_succ, List.getElem_cons_zero, List.setIfInBounds_toArray, List.set_cons_zero, List.set_cons_succ])
    refine wpAnyH_take (i := 9) (v := ?_) rfl (by kernel_rfl) (by kernel_rfl) (by kernel_rfl) (fun _ _ _ h => h) (Or.inl ⟨by rfl, ?_⟩) (by assumption) ?_
    rotate_left
    (focus (intro w hSw; (try dsimp only at hSw); go_simp; (try with_reducible rfl)))
    (try simp only [Act.put, List.getElem_toArray, List.getElem_cons_succ, List.getElem_cons_zero, List.setIfInBounds_toArray, List.set_cons_zero, List.set_cons_succ])
    refine wpAnyH_take (i := 10) (v := ?_) rfl (by kernel_rfl) (by kernel_rfl) (by kernel_rfl) (fun _ _ _ h => h) (Or.inl ⟨by rfl, ?_⟩) (by assumption) ?_
    rotate_left
    (focus (intro w hSw; (try dsimp only at hSw); go_simp; (try with_reducible rfl)))
    (try simp only [Act.put, List.getElem_toArray, List.getElem_cons_succ, List.getElem_cons_zero, List.setIfInBounds_toArray, List.set_cons_zero, List.set_cons_succ])
    refine wpAnyH_take (i := 11) rfl (by kernel_rfl) (by kernel_rfl) (by kernel_rfl) (fun _ _ _ h => h) (Or.inr ⟨by rfl, rfl⟩) (by assumption) ?_
    (try simp only [Act.put, List.getElem_toArray, List.getElem_cons_succ, List.getElem_cons_zero, List.setIfInBounds_toArray, List.set_cons_zero, List.set_cons_succ])
    refine wpAnyH_take (i := 12) rfl (by kernel_rfl) (by kernel_rfl) (by kernel_rfl) (fun _ _ _ h => h) (Or.inr ⟨by rfl, rfl⟩) (by assumption) ?_
    (try simp only [Act.put, List.getElem_toArray, List.getElem_cons_succ, List.getElem_cons_zero, List.setIfInBounds_toArray, List.set_cons_zero, List.set_cons_succ])
    refine wpAnyH_take (i := 13) rfl (by kernel_rfl) (by kernel_rfl) (by kernel_rfl) (fun _ _ _ h => h) (Or.inr ⟨by rfl, rfl⟩) (by assumption) ?_
    (try simp only [Act.put, List.getElem_toArray, List.getElem_cons_succ, List.getElem_cons_zero, List.setIfInBounds_toArray, List.set_cons_zero, List.set_cons_succ])
    refine wpAnyH_take (i := 14) rfl (by kernel_rfl) (by kernel_rfl) (by kernel_rfl) (fun _ _ _ h => h) (Or.inr ⟨by rfl, rfl⟩) (by assumption) ?_
    (try simp only [Act.put, List.getElem_toArray, List.getElem_cons_succ, List.getElem_cons_zero, List.setIfInBounds_toArray, List.set_cons_zero, List.set_cons_succ])
    refine wpAnyH_take (i := 15) rfl (by kernel_rfl) (by kernel_rfl) (by kernel_rfl) (fun _ _ _ h => h) (Or.inr ⟨by rfl, rfl⟩) (by assumption) ?_
    (try simp only [Act.put, List.getElem_toArray, List.getElem_cons_succ, List.getElem_cons_zero, List.setIfInBounds_toArray, List.set_cons_zero, List.set_cons_succ])
    refine wpAnyH_take (i := 16) (v := ?_) rfl (by kernel_rfl) (by kernel_rfl) (by kernel_rfl) (fun _ _ _ h => h) (Or.inl ⟨by rfl, ?_⟩) (by assumption) ?_
    rotate_left
    (focus (intro w hSw; (try dsimp only at hSw); go_simp; (try with_reducible rfl)))
    (try simp only [Act.put, List.getElem_toArray, List.getElem_cons_succ, List.getElem_cons_zero, List.setIfInBounds_toArray, List.set_cons_zero, List.set_cons_succ])
    refine wpAnyH_take (i := 17) (v := ?_) rfl (by kernel_rfl) (by kernel_rfl) (by kernel_rfl) (fun _ _ _ h => h) (Or.inl ⟨by rfl, ?_⟩) (by assumption) ?_
    rotate_left
    (focus (intro w hSw; (try dsimp only at hSw); go_simp; (try with_reducible rfl)))
    (try simp only [Act.put, List.getElem_toArray, List.getElem_cons_succ, List.getElem_cons_zero, List.setIfInBounds_toArray, List.set_cons_zero, List.set_cons_succ])
    refine wpAnyH_done (by kernel_rfl) ?_ _
    clear hHeld
    go_wp2
    go_ret
    exact ⟨by rw [HG.out]; rfl, K0.out.below⟩
  · rw [Bool.and_eq_true] at hv
    obtain ⟨h1, h2⟩ := hv
    obtain ⟨hva, hvb⟩ := gJAl_jv h1 h2
    have hg := gJAl_eq h1 h2
    rw [h1, h2] at K0
    rw [dkJ_frB hva, dkJ_frB hvb] at hg
    have hE : ∀ w, (Op.equalIn 10000 23 (.agg #[.int .i64 (fTimes a.x b.y).1.re, .int .i64 (fTimes a.x b.y).1.im, .int .i64 (fTimes a.x b.y).1.den]) (.agg #[.int .i64 (fTimes a.y b.x).1.re, .int .i64 (fTimes a.y b.x).1.im, .int .i64 (fTimes a.y b.x).1.den])).run Tryd.prog w = .ok (frB (fTimes a.x b.y).1 (fTimes a.y b.x).1) w := eqFr_run (fTimes a.x b.y).1 (fTimes a.y b.x).1 9998
    clear h1 h2 hva hvb key
    cases hf : frB (fTimes a.x b.y).1 (fTimes a.y b.x).1
    · have HG : Hid (gJAl a b = false) := by show _ = _; rw [hg, hf]; rfl
      rw [hf] at hE
      clear hg hf
      go_upto_region 3 with fail
      refine wp_region_held_drew (S := (fun w' => (w'.cell? ⟨w.heap.size + 1 + 1, 0, none⟩ = some (.bool false)) ∧ (w'.cell? ⟨X, 0, none⟩ = some (.int .i64 (fTimes a.x b.y).1.re) ∧ w'.cell? ⟨X, 1, none⟩ = some (.int .i64 (fTimes a.x b.y).1.im) ∧ w'.cell? ⟨X, 2, none⟩ = some (.int .i64 (fTimes a.x b.y).1.den)) ∧ (w'.cell? ⟨Y, 0, none⟩ = some (.int .i64 (fTimes a.y b.x).1.re) ∧ w'.cell? ⟨Y, 1, none⟩ = some (.int .i64 (fTimes a.y b.x).1.im) ∧ w'.cell? ⟨Y, 2, none⟩ = some (.int .i64 (fTimes a.y b.x).1.den)) ∧ (w'.cell? ⟨w.heap.size, 0, none⟩ = some (.int .i64 a.x.re) ∧ w'.cell? ⟨w.heap.size, 1, none⟩ = some (.int .i64 a.x.im) ∧ w'.cell? ⟨w.heap.size, 2, none⟩ = some (.int .i64 a.x.den) ∧ w'.cell? ⟨w.heap.size, 3, none⟩ = some (.int .i64 a.y.re) ∧ w'.cell? ⟨w.heap.size, 4, none⟩ = some (.int .i64 a.y.im) ∧ w'.cell? ⟨w.heap.size, 5, none⟩ = some (.int .i64 a.y.den)) ∧ (w'.cell? ⟨w.heap.size + 1, 0, none⟩ = some (.int .i64 b.x.re) ∧ w'.cell? ⟨w.heap.size + 1, 1, none⟩ = some (.int .i64 b.x.im) ∧ w'.cell? ⟨w.heap.size + 1, 2, none⟩ = some (.int .i64 b.x.den) ∧ w'.cell? ⟨w.heap.size + 1, 3, none⟩ = some (.int .i64 b.y.re) ∧ w'.cell? ⟨w.heap.size + 1, 4, none⟩ = some (.int .i64 b.y.im) ∧ w'.cell? ⟨w.heap.size + 1, 5, none⟩ = some (.int .i64 b.y.den)))) (by kernel_rfl) ⟨K0.out.cell, (K0.out.box (X, 1, fun _ => (fTimes a.x b.y).1) (by simp)).2.2.f3, (K0.out.box (Y, 1, fun _ => (fTimes a.y b.x).1) (by simp)).2.2.f3, (K0.out.box (w.heap.size, 2, j2k a) (by simp)).2.2.j6, (K0.out.box (w.heap.size + 1, 2, j2k b) (by simp)).2.2.j6⟩ (fun hHeld => ?_)
      refine wpAnyH_take (i := 0) (v := ?_) rfl (by kernel_rfl) (by kernel_rfl) (by kernel_rfl) (fun _ _ _ h => h) (Or.inl ⟨by rfl, ?_⟩) (by assumption) ?_
      rotate_left
      (focus (intro w hSw; (try dsimp only at hSw); go_simp; (try with_reducible rfl)))
      (try simp only [Act.put, List.getElem_toArray, List.getElem_cons_zero, List.setIfInBounds_toArray, List.set_cons_zero, List.set_cons_succ])
      refine wpAnyH_take (i := 1) (v := ?_) rfl (by kernel_rfl) (by kernel_rfl) (by kernel_rfl) (fun _ _ _ h => h) (Or.inl ⟨by rfl, ?_⟩) (by assumption) ?_
      rotate_left
      (focus (intro w hSw; (try dsimp only at hSw); go_simp; (try with_reducible rfl)))
      (try simp only [Act.put, List.getElem_toArray, List.getElem_cons_succ, List.getElem_cons_zero, List.setIfInBounds_toArray, List.set_cons_zero, List.set_cons_succ])
      refine wpAnyH_take (i := 2) (v := ?_) rfl (by kernel_rfl) (by kernel_rfl) (by kernel_rfl) (fun _ _ _ h => h) (Or.inl ⟨by rfl, ?_⟩) (by assumption) ?_
      rotate_left
      (focus (intro w hSw; (try dsimp only at hSw); go_simp; (try with_reducible rfl)))
      (try simp only [Act.put, List.getElem_toArray, List.getElem_cons_succ, List.getElem_cons_zero, List.setIfInBounds_toArray, List.set_cons_zero, List.set_cons_succ])
      refine wpAnyH_take (i := 3) (v := ?_) rfl (by kernel_rfl) (by kernel_rfl) (by kernel_rfl) (fun _ _ _ h => h) (Or.inl ⟨by rfl, ?_⟩) (by assumption) ?_
      rotate_left
      (focus (intro w hSw; (try dsimp only at hSw); go_simp; (try with_reducible rfl)))
      (try simp only [Act.put, List.getElem_toArray, List.getElem_cons_succ, List.getElem_cons_zero, List.setIfInBounds_toArray, List.set_cons_zero, List.set_cons_succ])
      refine wpAnyH_take (i := 4) (v := ?_) rfl (by kernel_rfl) (by kernel_rfl) (by kernel_rfl) (fun _ _ _ h => h) (Or.inl ⟨by rfl, ?_⟩) (by assumption) ?_
      rotate_left
      (focus (intro w hSw; (try dsimp only at hSw); go_simp; (try with_reducible rfl)))
      (try simp only [Act.put, List.getElem_toArray, List.getElem_cons_succ, List.getElem_cons_zero, List.setIfInBounds_toArray, List.set_cons_zero, List.set_cons_succ])
      refine wpAnyH_take (i := 5) (v := ?_) rfl (by kernel_rfl) (by kernel_rfl) (by kernel_rfl) (fun _ _ _ h => h) (Or.inl ⟨by rfl, ?_⟩) (by assumption) ?_
      rotate_left
      (focus (intro w hSw; (try dsimp only at hSw); go_simp; (try with_reducible rfl)))
      (try simp only [Act.put, List.getElem_toArray, List.getElem_cons_succ, List.getElem_cons_zero, List.setIfInBounds_toArray, List.set_cons_zero, List.set_cons_succ])
      refine wpAnyH_take (i := 6) (v := ?_) rfl (by kernel_rfl) (by kernel_rfl) (by kernel_rfl) (fun _ _ _ h => h) (Or.inl ⟨by rfl, ?_⟩) (by assumption) ?_
      rotate_left
      (focus (intro w hSw; (try dsimp only at hSw); go_simp; (try with_reducible rfl)))
      (try simp only [Act.put, List.getElem_toArray, List.getElem_cons_succ, List.getElem_cons_zero, List.setIfInBounds_toArray, List.set_cons_zero, List.set_cons_succ])
      refine wpAnyH_take (i := 7) (v := ?_) rfl (by kernel_rfl) (by kernel_rfl) (by kernel_rfl) (fun _ _ _ h => h) (Or.inl ⟨by rfl, ?_⟩) (by assumption) ?_
      rotate_left
      (focus (intro w hSw; (try dsimp only at hSw); go_simp; (try with_reducible rfl)))
      (try simp only [Act.put, List.getElem_toArray, List.getElem_cons_succ, List.getElem_cons_zero, List.setIfInBounds_toArray, List.set_cons_zero, List.set_cons_succ])
      refine wpAnyH_take (i := 8) (v := ?_) rfl (by kernel_rfl) (by kernel_rfl) (by kernel_rfl) (fun _ _ _ h => h) (Or.inl ⟨by rfl, ?_⟩) (by assumption) ?_
      rotate_left
      (focus (intro w hSw; (try dsimp only at hSw); go_simp; (try with_reducible rfl)))
      (try simp only [Act.put, List.getElem_toArray, List.getElem_cons_succ, List.getElem_cons_zero, List.setIfInBounds_toArray, List.set_cons_zero, List.set_cons_succ])
      refine wpAnyH_take (i := 9) (v := ?_) rfl (by kernel_rfl) (by kernel_rfl) (by kernel_rfl) (fun _ _ _ h => h) (Or.inl ⟨by rfl, ?_⟩) (by assumption) ?_
      rotate_left
      (focus (intro w hSw; (try dsimp only at hSw); go_simp; (try with_reducible rfl)))
      (try simp only [Act.put, List.getElem_toArray, List.getElem_cons_succ, List.getElem_cons_zero, List.setIfInBounds_toArray, List.set_cons_zero, List.set_cons_succ])
      refine wpAnyH_take (i := 10) (v := ?_) rfl (by kernel_rfl) (by kernel_rfl) (by kernel_rfl) (fun _ _ _ h => h) (Or.inl ⟨by rfl, ?_⟩) (by assumption) ?_
      rotate_left
      (focus (intro w hSw; (try dsimp only at hSw); go_simp; (try with_reducible rfl)))
      (try simp only [Act.put, List.getElem_toArray, List.getElem_cons_succ, List.getElem_cons_zero, List.setIfInBounds_toArray, List.set_cons_zero, List.set_cons_succ])
      refine wpAnyH_take (i := 11) rfl (by kernel_rfl) (by kernel_rfl) (by kernel_rfl) (fun _ _ _ h => h) (Or.inr ⟨by rfl, rfl⟩) (by assumption) ?_
      (try simp only [Act.put, List.getElem_toArray, List.getElem_cons_succ, List.getElem_cons_zero, List.setIfInBounds_toArray, List.set_cons_zero, List.set_cons_succ])
      refine wpAnyH_take (i := 12) rfl (by kernel_rfl) (by kernel_rfl) (by kernel_rfl) (fun _ _ _ h => h) (Or.inr ⟨by rfl, rfl⟩) (by assumption) ?_
      (try simp only [Act.put, List.getElem_toArray, List.getElem_cons_succ, List.getElem_cons_zero, List.setIfInBounds_toArray, List.set_cons_zero, List.set_cons_succ])
      refine wpAnyH_take (i := 13) rfl (by kernel_rfl) (by kernel_rfl) (by kernel_rfl) (fun _ _ _ h => h) (Or.inr ⟨by rfl, rfl⟩) (by assumption) ?_
      (try simp only [Act.put, List.getElem_toArray, List.getElem_cons_succ, List.getElem_cons_zero, List.setIfInBounds_toArray, List.set_cons_zero, List.set_cons_succ])
      refine wpAnyH_take (i := 14) rfl (by kernel_rfl) (by kernel_rfl) (by kernel_rfl) (fun _ _ _ h => h) (Or.inr ⟨by rfl, rfl⟩) (by assumption) ?_
      (try simp only [Act.put, List.getElem_toArray, List.getElem_cons_succ, List.getElem_cons_zero, List.setIfInBounds_toArray, List.set_cons_zero, List.set_cons_succ])
      refine wpAnyH_take (i := 15) rfl (by kernel_rfl) (by kernel_rfl) (by kernel_rfl) (fun _ _ _ h => h) (Or.inr ⟨by rfl, rfl⟩) (by assumption) ?_
      (try simp only [Act.put, List.getElem_toArray, List.getElem_cons_succ, List.getElem_cons_zero, List.setIfInBounds_toArray, List.set_cons_zero, List.set_cons_succ])
      refine wpAnyH_take (i := 16) (v := ?_) rfl (by kernel_rfl) (by kernel_rfl) (by kernel_rfl) (fun _ _ _ h => h) (Or.inl ⟨by rfl, ?_⟩) (by assumption) ?_
      rotate_left
      (focus (intro w hSw; (try dsimp only at hSw); go_simp; (try with_reducible rfl)))
      (try simp only [Act.put, List.getElem_toArray, List.getElem_cons_succ, List.getElem_cons_zero, List.setIfInBounds_toArray, List.set_cons_zero, List.set_cons_succ])
      refine wpAnyH_take (i := 17) (v := ?_) rfl (by kernel_rfl) (by kernel_rfl) (by kernel_rfl) (fun _ _ _ h => h) (Or.inl ⟨by rfl, ?_⟩) (by assumption) ?_
      rotate_left
      (focus (intro w hSw; (try dsimp only at hSw); go_simp; (try with_reducible rfl)))
      (try simp only [Act.put, List.getElem_toArray, List.getElem_cons_succ, List.getElem_cons_zero, List.setIfInBounds_toArray, List.set_cons_zero, List.set_cons_succ])
      refine wpAnyH_done (by kernel_rfl) ?_ _
      clear hHeld
      go_wp2
      go_ret
      exact ⟨by rw [HG.out]; rfl, K0.out.below⟩
    · have HG : Hid (gJAl a b = ((frB a.x f0 && frB a.y f0) == (frB b.x f0 && frB b.y f0))) := by show _ = _; rw [hg, hf]; rfl
      rw [hf] at hE
      clear hg hf
      go_upto_region 3 with fail
      refine wp_region_held_drew (S := (fun w' => (w'.cell? ⟨w.heap.size + 1 + 1, 0, none⟩ = some (.bool false)) ∧ (w'.cell? ⟨X, 0, none⟩ = some (.int .i64 (fTimes a.x b.y).1.re) ∧ w'.cell? ⟨X, 1, none⟩ = some (.int .i64 (fTimes a.x b.y).1.im) ∧ w'.cell? ⟨X, 2, none⟩ = some (.int .i64 (fTimes a.x b.y).1.den)) ∧ (w'.cell? ⟨Y, 0, none⟩ = some (.int .i64 (fTimes a.y b.x).1.re) ∧ w'.cell? ⟨Y, 1, none⟩ = some (.int .i64 (fTimes a.y b.x).1.im) ∧ w'.cell? ⟨Y, 2, none⟩ = some (.int .i64 (fTimes a.y b.x).1.den)) ∧ (w'.cell? ⟨w.heap.size, 0, none⟩ = some (.int .i64 a.x.re) ∧ w'.cell? ⟨w.heap.size, 1, none⟩ = some (.int .i64 a.x.im) ∧ w'.cell? ⟨w.heap.size, 2, none⟩ = some (.int .i64 a.x.den) ∧ w'.cell? ⟨w.heap.size, 3, none⟩ = some (.int .i64 a.y.re) ∧ w'.cell? ⟨w.heap.size, 4, none⟩ = some (.int .i64 a.y.im) ∧ w'.cell? ⟨w.heap.size, 5, none⟩ = some (.int .i64 a.y.den)) ∧ (w'.cell? ⟨w.heap.size + 1, 0, none⟩ = some (.int .i64 b.x.re) ∧ w'.cell? ⟨w.heap.size + 1, 1, none⟩ = some (.int .i64 b.x.im) ∧ w'.cell? ⟨w.heap.size + 1, 2, none⟩ = some (.int .i64 b.x.den) ∧ w'.cell? ⟨w.heap.size + 1, 3, none⟩ = some (.int .i64 b.y.re) ∧ w'.cell? ⟨w.heap.size + 1, 4, none⟩ = some (.int .i64 b.y.im) ∧ w'.cell? ⟨w.heap.size + 1, 5, none⟩ = some (.int .i64 b.y.den)))) (by kernel_rfl) ⟨K0.out.cell, (K0.out.box (X, 1, fun _ => (fTimes a.x b.y).1) (by simp)).2.2.f3, (K0.out.box (Y, 1, fun _ => (fTimes a.y b.x).1) (by simp)).2.2.f3, (K0.out.box (w.heap.size, 2, j2k a) (by simp)).2.2.j6, (K0.out.box (w.heap.size + 1, 2, j2k b) (by simp)).2.2.j6⟩ (fun hHeld => ?_)
      refine wpAnyH_take (i := 0) (v := ?_) rfl (by kernel_rfl) (by kernel_rfl) (by kernel_rfl) (fun _ _ _ h => h) (Or.inl ⟨by rfl, ?_⟩) (by assumption) ?_
      rotate_left
      (focus (intro w hSw; (try dsimp only at hSw); go_simp; (try with_reducible rfl)))
      (try simp only [Act.put, List.getElem_toArray, List.getElem_cons_zero, List.setIfInBounds_toArray, List.set_cons_zero, List.set_cons_succ])
      refine wpAnyH_take (i := 1) (v := ?_) rfl (by kernel_rfl) (by kernel_rfl) (by kernel_rfl) (fun _ _ _ h => h) (Or.inl ⟨by rfl, ?_⟩) (by assumption) ?_
      rotate_left
      (focus (intro w hSw; (try dsimp only at hSw); go_simp; (try with_reducible rfl)))
      (try simp only [Act.put, List.getElem_toArray, List.getElem_cons_succ, List.getElem_cons_zero, List.setIfInBounds_toArray, List.set_cons_zero, List.set_cons_succ])
      refine wpAnyH_take (i := 2) (v := ?_) rfl (by kernel_rfl) (by kernel_rfl) (by kernel_rfl) (fun _ _ _ h => h) (Or.inl ⟨by rfl, ?_⟩) (by assumption) ?_
      rotate_left
      (focus (intro w hSw; (try dsimp only at hSw); go_simp; (try with_reducible rfl)))
      (try simp only [Act.put, List.getElem_toArray, List.getElem_cons_succ, List.getElem_cons_zero, List.setIfInBounds_toArray, List.set_cons_zero, List.set_cons_succ])
      refine wpAnyH_take (i := 3) (v := ?_) rfl (by kernel_rfl) (by kernel_rfl) (by kernel_rfl) (fun _ _ _ h => h) (Or.inl ⟨by rfl, ?_⟩) (by assumption) ?_
      rotate_left
      (focus (intro w hSw; (try dsimp only at hSw); go_simp; (try with_reducible rfl)))
      (try simp only [Act.put, List.getElem_toArray, List.getElem_cons_succ, List.getElem_cons_zero, List.setIfInBounds_toArray, List.set_cons_zero, List.set_cons_succ])
      refine wpAnyH_take (i := 4) (v := ?_) rfl (by kernel_rfl) (by kernel_rfl) (by kernel_rfl) (fun _ _ _ h => h) (Or.inl ⟨by rfl, ?_⟩) (by assumption) ?_
      rotate_left
      (focus (intro w hSw; (try dsimp only at hSw); go_simp; (try with_reducible rfl)))
      (try simp only [Act.put, List.getElem_toArray, List.getElem_cons_succ, List.getElem_cons_zero, List.setIfInBounds_toArray, List.set_cons_zero, List.set_cons_succ])
      refine wpAnyH_take (i := 5) (v := ?_) rfl (by kernel_rfl) (by kernel_rfl) (by kernel_rfl) (fun _ _ _ h => h) (Or.inl ⟨by rfl, ?_⟩) (by assumption) ?_
      rotate_left
      (focus (intro w hSw; (try dsimp only at hSw); go_simp; (try with_reducible rfl)))
      (try simp only [Act.put, List.getElem_toArray, List.getElem_cons_succ, List.getElem_cons_zero, List.setIfInBounds_toArray, List.set_cons_zero, List.set_cons_succ])
      refine wpAnyH_take (i := 6) (v := ?_) rfl (by kernel_rfl) (by kernel_rfl) (by kernel_rfl) (fun _ _ _ h => h) (Or.inl ⟨by rfl, ?_⟩) (by assumption) ?_
      rotate_left
      (focus (intro w hSw; (try dsimp only at hSw); go_simp; (try with_reducible rfl)))
      (try simp only [Act.put, List.getElem_toArray, List.getElem_cons_succ, List.getElem_cons_zero, List.setIfInBounds_toArray, List.set_cons_zero, List.set_cons_succ])
      refine wpAnyH_take (i := 7) (v := ?_) rfl (by kernel_rfl) (by kernel_rfl) (by kernel_rfl) (fun _ _ _ h => h) (Or.inl ⟨by rfl, ?_⟩) (by assumption) ?_
      rotate_left
      (focus (intro w hSw; (try dsimp only at hSw); go_simp; (try with_reducible rfl)))
      (try simp only [Act.put, List.getElem_toArray, List.getElem_cons_succ, List.getElem_cons_zero, List.setIfInBounds_toArray, List.set_cons_zero, List.set_cons_succ])
      refine wpAnyH_take (i := 8) (v := ?_) rfl (by kernel_rfl) (by kernel_rfl) (by kernel_rfl) (fun _ _ _ h => h) (Or.inl ⟨by rfl, ?_⟩) (by assumption) ?_
      rotate_left
      (focus (intro w hSw; (try dsimp only at hSw); go_simp; (try with_reducible rfl)))
      (try simp only [Act.put, List.getElem_toArray, List.getElem_cons_succ, List.getElem_cons_zero, List.setIfInBounds_toArray, List.set_cons_zero, List.set_cons_succ])
      refine wpAnyH_take (i := 9) (v := ?_) rfl (by kernel_rfl) (by kernel_rfl) (by kernel_rfl) (fun _ _ _ h => h) (Or.inl ⟨by rfl, ?_⟩) (by assumption) ?_
      rotate_left
      (focus (intro w hSw; (try dsimp only at hSw); go_simp; (try with_reducible rfl)))
      (try simp only [Act.put, List.getElem_toArray, List.getElem_cons_succ, List.getElem_cons_zero, List.setIfInBounds_toArray, List.set_cons_zero, List.set_cons_succ])
      refine wpAnyH_take (i := 10) (v := ?_) rfl (by kernel_rfl) (by kernel_rfl) (by kernel_rfl) (fun _ _ _ h => h) (Or.inl ⟨by rfl, ?_⟩) (by assumption) ?_
      rotate_left
      (focus (intro w hSw; (try dsimp only at hSw); go_simp; (try with_reducible rfl)))
      (try simp only [Act.put, List.getElem_toArray, List.getElem_cons_succ, List.getElem_cons_zero, List.setIfInBounds_toArray, List.set_cons_zero, List.set_cons_succ])
      refine wpAnyH_take (i := 11) (v := ?_) rfl (by kernel_rfl) (by kernel_rfl) (by kernel_rfl) (fun _ _ _ h => h) (Or.inl ⟨by rfl, ?_⟩) (by assumption) ?_
      rotate_left
      (focus (intro w hSw; (try dsimp only at hSw); go_simp; (try with_reducible rfl)))
      (try simp only [Act.put, List.getElem_toArray, List.getElem_cons_succ, List.getElem_cons_zero, List.setIfInBounds_toArray, List.set_cons_zero, List.set_cons_succ])
      refine wpAnyH_take (i := 13) (v := ?_) rfl (by kernel_rfl) (by kernel_rfl) (by kernel_rfl) (fun _ _ _ h => h) (Or.inl ⟨by rfl, ?_⟩) (by assumption) ?_
      rotate_left
      (focus (intro w hSw; (try dsimp only at hSw); go_simp; (try with_reducible rfl)))
      (try simp only [Act.put, List.getElem_toArray, List.getElem_cons_succ, List.getElem_cons_zero, List.setIfInBounds_toArray, List.set_cons_zero, List.set_cons_succ])
      refine wpAnyH_ready (rs := [12]) (by kernel_rfl) (by simp) ?_
      refine AllReadyH.cons rfl (fun Kp hK => ?_) AllReadyH.nil
      go_simp
      go_at_call 90
      (with_reducible refine (idk_any a _ (HZ.out.below K0.out.below)).mono ?_)
      rintro e w8 ⟨rfl, hb⟩
      have K8 := Lib.hid (K0.out.next hb)
      clear hb
      refine hK.out _ _ ⟨K8.out.cell, (K8.out.box (X, 1, fun _ => (fTimes a.x b.y).1) (by simp)).2.2.f3, (K8.out.box (Y, 1, fun _ => (fTimes a.y b.x).1) (by simp)).2.2.f3, (K8.out.box (w.heap.size, 2, j2k a) (by simp)).2.2.j6, (K8.out.box (w.heap.size + 1, 2, j2k b) (by simp)).2.2.j6⟩ (fun hHeld => ?_)
      clear hK Kp
      (try simp only [Act.put, List.getElem_toArray, List.getElem_cons_succ, List.getElem_cons_zero, List.setIfInBounds_toArray, List.set_cons_zero, List.set_cons_succ])
      refine wpAnyH_ready (rs := [14]) (by kernel_rfl) (by simp) ?_
      refine AllReadyH.cons rfl (fun Kp hK => ?_) AllReadyH.nil
      go_simp
      go_at_call 90
      (with_reducible refine (idk_any b _ (HZ.out.below K8.out.below)).mono ?_)
      rintro e w9 ⟨rfl, hb⟩
      have K9 := Lib.hid (K8.out.next hb)
      clear hb
      refine hK.out _ _ ⟨K9.out.cell, (K9.out.box (X, 1, fun _ => (fTimes a.x b.y).1) (by simp)).2.2.f3, (K9.out.box (Y, 1, fun _ => (fTimes a.y b.x).1) (by simp)).2.2.f3, (K9.out.box (w.heap.size, 2, j2k a) (by simp)).2.2.j6, (K9.out.box (w.heap.size + 1, 2, j2k b) (by simp)).2.2.j6⟩ (fun hHeld => ?_)
      clear hK Kp
      (try simp only [Act.put, List.getElem_toArray, List.getElem_cons_succ, List.getElem_cons_zero, List.setIfInBounds_toArray, List.set_cons_zero, List.set_cons_succ])
      refine wpAnyH_take (i := 15) (v := ?_) rfl (by kernel_rfl) (by kernel_rfl) (by kernel_rfl) (fun _ _ _ h => h) (Or.inl ⟨by rfl, ?_⟩) (by assumption) ?_
      rotate_left
      (focus (intro w hSw; (try dsimp only at hSw); go_simp; (try with_reducible rfl)))
      (try simp only [Act.put, List.getElem_toArray, List.getElem_cons_succ, List.getElem_cons_zero, List.setIfInBounds_toArray, List.set_cons_zero, List.set_cons_succ])
      refine wpAnyH_take (i := 16) (v := ?_) rfl (by kernel_rfl) (by kernel_rfl) (by kernel_rfl) (fun _ _ _ h => h) (Or.inl ⟨by rfl, ?_⟩) (by assumption) ?_
      rotate_left
      (focus (intro w hSw; (try dsimp only at hSw); go_simp; (try with_reducible rfl)))
      (try simp only [Act.put, List.getElem_toArray, List.getElem_cons_succ, List.getElem_cons_zero, List.setIfInBounds_toArray, List.set_cons_zero, List.set_cons_succ])
      refine wpAnyH_take (i := 17) (v := ?_) rfl (by kernel_rfl) (by kernel_rfl) (by kernel_rfl) (fun _ _ _ h => h) (Or.inl ⟨by rfl, ?_⟩) (by assumption) ?_
      rotate_left
      (focus (intro w hSw; (try dsimp only at hSw); go_simp; (try with_reducible rfl)))
      (try simp only [Act.put, List.getElem_toArray, List.getElem_cons_succ, List.getElem_cons_zero, List.setIfInBounds_toArray, List.set_cons_zero, List.set_cons_succ])
      refine wpAnyH_done (by kernel_rfl) ?_ _
      clear hHeld
      go_wp2
      go_ret
      exact ⟨by rw [HG.out]; rfl, K9.out.below⟩
end Go.Proofs.YtmcokdiopcpifaaDoor
