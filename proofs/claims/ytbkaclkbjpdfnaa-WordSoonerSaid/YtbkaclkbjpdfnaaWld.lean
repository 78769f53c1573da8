/- The walks of the statements of layer 1, the fifth part: WordSooner. -/
import Derived.Test.YtbkaclkbjpdfnaaWlc
namespace Go.Proofs.Ytbkaclkbjpdfnaa
open Go.RowKit

theorem keyW_bd (p s q : Int) (h : keyE p s q = 0) : 0 ≤ p ∧ p ≤ 254 ∧ 0 ≤ s ∧ s ≤ 1099511627775 ∧ 0 ≤ q ∧ q ≤ 65535 ∧ keyW p s q = q + 65536 * s + 72057594037927936 * p := by
  have h0 : ¬ (p < 0 ∨ 254 < p ∨ s < 0 ∨ 1099511627775 < s ∨ q < 0 ∨ 65535 < q) := by
    intro hc; unfold keyE at h; rw [if_pos hc] at h; omega
  refine ⟨by omega, by omega, by omega, by omega, by omega, by omega, ?_⟩
  unfold keyW; rw [if_pos h]

set_option maxHeartbeats 2000000 in
theorem wordSooner_no (p s q p2 s2 q2 : Int) (E1 E2 : Int) (w : World) (he1 : keyE p s q = E1) (he2 : keyE p2 s2 q2 = E2) (h : E1 ≠ 0 ∨ E2 ≠ 0) :
    Calls Try.prog 10 #[.agg #[.int .i64 p, .int .i64 s, .int .i64 q], .agg #[.int .i64 p2, .int .i64 s2, .int .i64 q2]] w fun e w' => e = .returned (.bool true) ∧ Below w.heap.size w w' := by
  have e1 := Lib.hid he1
  have e2 := Lib.hid he2
  clear he1 he2
  by_cases h1 : E1 = 0
  · have f1 : (E1 != 0) = false := by simp [h1]
    have f2 : (E2 != 0) = true := by simp; omega
    clear h h1
    go_enter Try.func10, Try.ntmps10
    go_wp2_with fail
    refine (wordKnown_walk _).mono ?_
    rintro e w' ⟨rfl, hb1⟩
    have hB : Below (w.heap.size + 2) (w.alloc (.cells #[.int .i64 p, .int .i64 s, .int .i64 q] 29) |>.alloc (.cells #[.int .i64 p2, .int .i64 s2, .int .i64 q2] 29)) w' := hb1.mono (by simp)
    have hc := bel_cell hB
    clear hb1
    go_wp2_with (first | (go_at_call 20; refine (putKey_any _ _ _ _).mono ?_; rintro e w' ⟨rfl, hb1⟩; have hBn : Below (w.heap.size + 2) _ w' := (kc_call hb1 (by (repeat (first | (with_reducible assumption) | exact Below.refl _ _ | (with_reducible refine kb_drew ?_) | (with_reducible refine kb_drewN ?_) | (with_reducible refine k_drewN ?_) | (with_reducible refine kb_alloc ?_) | (with_reducible refine kc_alloc ?_ (by simp only [World.size_alloc]; omega)) | (with_reducible refine k_drew ?_) | (with_reducible refine k_alloc ?_) | (with_reducible refine Below.setCell ?_ (by first | (simp; done) | (simp only; omega)) _) | (with_reducible refine kb_call (by with_reducible assumption) ?_) | (with_reducible refine kc_call (by with_reducible assumption) ?_ (by simp only [World.size_alloc]; omega)) | (with_reducible refine k_call (by with_reducible assumption) ?_)))) (by simp)); clear hB hc hb1; have hB := hBn; have hc := bel_cell hB; clear hBn; first | rw [e1.out] | rw [e2.out]))
    go_ret
    exact ⟨rfl, Below.trans (by (repeat (first | (with_reducible assumption) | exact Below.refl _ _ | (with_reducible refine kb_drew ?_) | (with_reducible refine kb_drewN ?_) | (with_reducible refine k_drewN ?_) | (with_reducible refine kb_alloc ?_) | (with_reducible refine kc_alloc ?_ (by simp only [World.size_alloc]; omega)) | (with_reducible refine k_drew ?_) | (with_reducible refine k_alloc ?_) | (with_reducible refine Below.setCell ?_ (by first | (simp; done) | (simp only; omega)) _) | (with_reducible refine kb_call (by with_reducible assumption) ?_) | (with_reducible refine kc_call (by with_reducible assumption) ?_ (by simp only [World.size_alloc]; omega)) | (with_reducible refine k_call (by with_reducible assumption) ?_)))) (hB.mono (by omega))⟩
  · have f1 : (E1 != 0) = true := by simp [h1]
    clear h h1
    go_enter Try.func10, Try.ntmps10
    go_wp2_with fail
    refine (wordKnown_walk _).mono ?_
    rintro e w' ⟨rfl, hb1⟩
    have hB : Below (w.heap.size + 2) (w.alloc (.cells #[.int .i64 p, .int .i64 s, .int .i64 q] 29) |>.alloc (.cells #[.int .i64 p2, .int .i64 s2, .int .i64 q2] 29)) w' := hb1.mono (by simp)
    have hc := bel_cell hB
    clear hb1
    go_wp2_with (first | (go_at_call 20; refine (putKey_any _ _ _ _).mono ?_; rintro e w' ⟨rfl, hb1⟩; have hBn : Below (w.heap.size + 2) _ w' := (kc_call hb1 (by (repeat (first | (with_reducible assumption) | exact Below.refl _ _ | (with_reducible refine kb_drew ?_) | (with_reducible refine kb_drewN ?_) | (with_reducible refine k_drewN ?_) | (with_reducible refine kb_alloc ?_) | (with_reducible refine kc_alloc ?_ (by simp only [World.size_alloc]; omega)) | (with_reducible refine k_drew ?_) | (with_reducible refine k_alloc ?_) | (with_reducible refine Below.setCell ?_ (by first | (simp; done) | (simp only; omega)) _) | (with_reducible refine kb_call (by with_reducible assumption) ?_) | (with_reducible refine kc_call (by with_reducible assumption) ?_ (by simp only [World.size_alloc]; omega)) | (with_reducible refine k_call (by with_reducible assumption) ?_)))) (by simp)); clear hB hc hb1; have hB := hBn; have hc := bel_cell hB; clear hBn; first | rw [e1.out] | rw [e2.out]))
    go_ret
    exact ⟨rfl, Below.trans (by (repeat (first | (with_reducible assumption) | exact Below.refl _ _ | (with_reducible refine kb_drew ?_) | (with_reducible refine kb_drewN ?_) | (with_reducible refine k_drewN ?_) | (with_reducible refine kb_alloc ?_) | (with_reducible refine kc_alloc ?_ (by simp only [World.size_alloc]; omega)) | (with_reducible refine k_drew ?_) | (with_reducible refine k_alloc ?_) | (with_reducible refine Below.setCell ?_ (by first | (simp; done) | (simp only; omega)) _) | (with_reducible refine kb_call (by with_reducible assumption) ?_) | (with_reducible refine kc_call (by with_reducible assumption) ?_ (by simp only [World.size_alloc]; omega)) | (with_reducible refine k_call (by with_reducible assumption) ?_)))) (hB.mono (by omega))⟩

set_option maxHeartbeats 2000000 in
theorem wordSooner_lt1 (p s q p2 s2 q2 : Int) (w : World) (he1 : keyE p s q = 0) (he2 : keyE p2 s2 q2 = 0) (c1 : p < p2) :
    Calls Try.prog 10 #[.agg #[.int .i64 p, .int .i64 s, .int .i64 q], .agg #[.int .i64 p2, .int .i64 s2, .int .i64 q2]] w fun e w' => e = .returned (.bool true) ∧ Below w.heap.size w w' := by
  have e1 := Lib.hid he1
  have e2 := Lib.hid he2
  obtain ⟨b1, b2, b3, b4, b5, b6, b7⟩ := keyW_bd p s q he1
  obtain ⟨d1, d2, d3, d4, d5, d6, d7⟩ := keyW_bd p2 s2 q2 he2
  generalize hX : keyW p s q = X at *
  generalize hY : keyW p2 s2 q2 = Y at *
  have HX := Lib.hid hX
  have HY := Lib.hid hY
  have u1 : X < 18446744073709551615 := by omega
  have u2 : Y < 18446744073709551615 := by omega
  have t1 : decide (p < p2) = true := by simp; omega
  have t2 : (p == p2) = false := by simp; omega
  have v1 : decide (X < Y) = true := by simp; omega
  have v2 : (X == Y) = false := by simp; omega
  clear hX hY he1 he2 b1 b2 b3 b4 b5 b6 b7 d1 d2 d3 d4 d5 d6 d7 c1
  go_enter Try.func10, Try.ntmps10
  go_wp2_with fail
  refine (wordKnown_walk _).mono ?_
  rintro e w' ⟨rfl, hb1⟩
  have hB : Below (w.heap.size + 2) (w.alloc (.cells #[.int .i64 p, .int .i64 s, .int .i64 q] 29) |>.alloc (.cells #[.int .i64 p2, .int .i64 s2, .int .i64 q2] 29)) w' := hb1.mono (by simp)
  have hc := bel_cell hB
  clear hb1
  go_wp2_with (first | (go_at_call 20; refine (putKey_any _ _ _ _).mono ?_; rintro e w' ⟨rfl, hb1⟩; have hBn : Below (w.heap.size + 2) _ w' := (kc_call hb1 (by (repeat (first | (with_reducible assumption) | exact Below.refl _ _ | (with_reducible refine kb_drew ?_) | (with_reducible refine kb_drewN ?_) | (with_reducible refine k_drewN ?_) | (with_reducible refine kb_alloc ?_) | (with_reducible refine kc_alloc ?_ (by simp only [World.size_alloc]; omega)) | (with_reducible refine k_drew ?_) | (with_reducible refine k_alloc ?_) | (with_reducible refine Below.setCell ?_ (by first | (simp; done) | (simp only; omega)) _) | (with_reducible refine kb_call (by with_reducible assumption) ?_) | (with_reducible refine kc_call (by with_reducible assumption) ?_ (by simp only [World.size_alloc]; omega)) | (with_reducible refine k_call (by with_reducible assumption) ?_)))) (by simp)); clear hB hc hb1; have hB := hBn; have hc := bel_cell hB; clear hBn; first | rw [e1.out, HX.out] | rw [e2.out, HY.out]))
  go_ret
  exact ⟨rfl, Below.trans (by (repeat (first | (with_reducible assumption) | exact Below.refl _ _ | (with_reducible refine kb_drew ?_) | (with_reducible refine kb_drewN ?_) | (with_reducible refine k_drewN ?_) | (with_reducible refine kb_alloc ?_) | (with_reducible refine kc_alloc ?_ (by simp only [World.size_alloc]; omega)) | (with_reducible refine k_drew ?_) | (with_reducible refine k_alloc ?_) | (with_reducible refine Below.setCell ?_ (by first | (simp; done) | (simp only; omega)) _) | (with_reducible refine kb_call (by with_reducible assumption) ?_) | (with_reducible refine kc_call (by with_reducible assumption) ?_ (by simp only [World.size_alloc]; omega)) | (with_reducible refine k_call (by with_reducible assumption) ?_)))) (hB.mono (by omega))⟩

set_option maxHeartbeats 2000000 in
theorem wordSooner_gt1 (p s q p2 s2 q2 : Int) (w : World) (he1 : keyE p s q = 0) (he2 : keyE p2 s2 q2 = 0) (c1 : p2 < p) :
    Calls Try.prog 10 #[.agg #[.int .i64 p, .int .i64 s, .int .i64 q], .agg #[.int .i64 p2, .int .i64 s2, .int .i64 q2]] w fun e w' => e = .returned (.bool true) ∧ Below w.heap.size w w' := by
  have e1 := Lib.hid he1
  have e2 := Lib.hid he2
  obtain ⟨b1, b2, b3, b4, b5, b6, b7⟩ := keyW_bd p s q he1
  obtain ⟨d1, d2, d3, d4, d5, d6, d7⟩ := keyW_bd p2 s2 q2 he2
  generalize hX : keyW p s q = X at *
  generalize hY : keyW p2 s2 q2 = Y at *
  have HX := Lib.hid hX
  have HY := Lib.hid hY
  have u1 : X < 18446744073709551615 := by omega
  have u2 : Y < 18446744073709551615 := by omega
  have t1 : decide (p < p2) = false := by simp; omega
  have t2 : (p == p2) = false := by simp; omega
  have v1 : decide (X < Y) = false := by simp; omega
  have v2 : (X == Y) = false := by simp; omega
  clear hX hY he1 he2 b1 b2 b3 b4 b5 b6 b7 d1 d2 d3 d4 d5 d6 d7 c1
  go_enter Try.func10, Try.ntmps10
  go_wp2_with fail
  refine (wordKnown_walk _).mono ?_
  rintro e w' ⟨rfl, hb1⟩
  have hB : Below (w.heap.size + 2) (w.alloc (.cells #[.int .i64 p, .int .i64 s, .int .i64 q] 29) |>.alloc (.cells #[.int .i64 p2, .int .i64 s2, .int .i64 q2] 29)) w' := hb1.mono (by simp)
  have hc := bel_cell hB
  clear hb1
  go_wp2_with (first | (go_at_call 20; refine (putKey_any _ _ _ _).mono ?_; rintro e w' ⟨rfl, hb1⟩; have hBn : Below (w.heap.size + 2) _ w' := (kc_call hb1 (by (repeat (first | (with_reducible assumption) | exact Below.refl _ _ | (with_reducible refine kb_drew ?_) | (with_reducible refine kb_drewN ?_) | (with_reducible refine k_drewN ?_) | (with_reducible refine kb_alloc ?_) | (with_reducible refine kc_alloc ?_ (by simp only [World.size_alloc]; omega)) | (with_reducible refine k_drew ?_) | (with_reducible refine k_alloc ?_) | (with_reducible refine Below.setCell ?_ (by first | (simp; done) | (simp only; omega)) _) | (with_reducible refine kb_call (by with_reducible assumption) ?_) | (with_reducible refine kc_call (by with_reducible assumption) ?_ (by simp only [World.size_alloc]; omega)) | (with_reducible refine k_call (by with_reducible assumption) ?_)))) (by simp)); clear hB hc hb1; have hB := hBn; have hc := bel_cell hB; clear hBn; first | rw [e1.out, HX.out] | rw [e2.out, HY.out]))
  go_ret
  exact ⟨rfl, Below.trans (by (repeat (first | (with_reducible assumption) | exact Below.refl _ _ | (with_reducible refine kb_drew ?_) | (with_reducible refine kb_drewN ?_) | (with_reducible refine k_drewN ?_) | (with_reducible refine kb_alloc ?_) | (with_reducible refine kc_alloc ?_ (by simp only [World.size_alloc]; omega)) | (with_reducible refine k_drew ?_) | (with_reducible refine k_alloc ?_) | (with_reducible refine Below.setCell ?_ (by first | (simp; done) | (simp only; omega)) _) | (with_reducible refine kb_call (by with_reducible assumption) ?_) | (with_reducible refine kc_call (by with_reducible assumption) ?_ (by simp only [World.size_alloc]; omega)) | (with_reducible refine k_call (by with_reducible assumption) ?_)))) (hB.mono (by omega))⟩

set_option maxHeartbeats 2000000 in
theorem wordSooner_lt2 (p s q p2 s2 q2 : Int) (w : World) (he1 : keyE p s q = 0) (he2 : keyE p2 s2 q2 = 0) (c1 : p = p2) (c2 : s < s2) :
    Calls Try.prog 10 #[.agg #[.int .i64 p, .int .i64 s, .int .i64 q], .agg #[.int .i64 p2, .int .i64 s2, .int .i64 q2]] w fun e w' => e = .returned (.bool true) ∧ Below w.heap.size w w' := by
  have e1 := Lib.hid he1
  have e2 := Lib.hid he2
  obtain ⟨b1, b2, b3, b4, b5, b6, b7⟩ := keyW_bd p s q he1
  obtain ⟨d1, d2, d3, d4, d5, d6, d7⟩ := keyW_bd p2 s2 q2 he2
  generalize hX : keyW p s q = X at *
  generalize hY : keyW p2 s2 q2 = Y at *
  have HX := Lib.hid hX
  have HY := Lib.hid hY
  have u1 : X < 18446744073709551615 := by omega
  have u2 : Y < 18446744073709551615 := by omega
  have t1 : decide (p < p2) = false := by simp; omega
  have t2 : (p == p2) = true := by simp; omega
  have t3 : decide (s < s2) = true := by simp; omega
  have t4 : (s == s2) = false := by simp; omega
  have v1 : decide (X < Y) = true := by simp; omega
  have v2 : (X == Y) = false := by simp; omega
  clear hX hY he1 he2 b1 b2 b3 b4 b5 b6 b7 d1 d2 d3 d4 d5 d6 d7 c1 c2
  go_enter Try.func10, Try.ntmps10
  go_wp2_with fail
  refine (wordKnown_walk _).mono ?_
  rintro e w' ⟨rfl, hb1⟩
  have hB : Below (w.heap.size + 2) (w.alloc (.cells #[.int .i64 p, .int .i64 s, .int .i64 q] 29) |>.alloc (.cells #[.int .i64 p2, .int .i64 s2, .int .i64 q2] 29)) w' := hb1.mono (by simp)
  have hc := bel_cell hB
  clear hb1
  go_wp2_with (first | (go_at_call 20; refine (putKey_any _ _ _ _).mono ?_; rintro e w' ⟨rfl, hb1⟩; have hBn : Below (w.heap.size + 2) _ w' := (kc_call hb1 (by (repeat (first | (with_reducible assumption) | exact Below.refl _ _ | (with_reducible refine kb_drew ?_) | (with_reducible refine kb_drewN ?_) | (with_reducible refine k_drewN ?_) | (with_reducible refine kb_alloc ?_) | (with_reducible refine kc_alloc ?_ (by simp only [World.size_alloc]; omega)) | (with_reducible refine k_drew ?_) | (with_reducible refine k_alloc ?_) | (with_reducible refine Below.setCell ?_ (by first | (simp; done) | (simp only; omega)) _) | (with_reducible refine kb_call (by with_reducible assumption) ?_) | (with_reducible refine kc_call (by with_reducible assumption) ?_ (by simp only [World.size_alloc]; omega)) | (with_reducible refine k_call (by with_reducible assumption) ?_)))) (by simp)); clear hB hc hb1; have hB := hBn; have hc := bel_cell hB; clear hBn; first | rw [e1.out, HX.out] | rw [e2.out, HY.out]))
  go_ret
  exact ⟨rfl, Below.trans (by (repeat (first | (with_reducible assumption) | exact Below.refl _ _ | (with_reducible refine kb_drew ?_) | (with_reducible refine kb_drewN ?_) | (with_reducible refine k_drewN ?_) | (with_reducible refine kb_alloc ?_) | (with_reducible refine kc_alloc ?_ (by simp only [World.size_alloc]; omega)) | (with_reducible refine k_drew ?_) | (with_reducible refine k_alloc ?_) | (with_reducible refine Below.setCell ?_ (by first | (simp; done) | (simp only; omega)) _) | (with_reducible refine kb_call (by with_reducible assumption) ?_) | (with_reducible refine kc_call (by with_reducible assumption) ?_ (by simp only [World.size_alloc]; omega)) | (with_reducible refine k_call (by with_reducible assumption) ?_)))) (hB.mono (by omega))⟩

set_option maxHeartbeats 2000000 in
theorem wordSooner_gt2 (p s q p2 s2 q2 : Int) (w : World) (he1 : keyE p s q = 0) (he2 : keyE p2 s2 q2 = 0) (c1 : p = p2) (c2 : s2 < s) :
    Calls Try.prog 10 #[.agg #[.int .i64 p, .int .i64 s, .int .i64 q], .agg #[.int .i64 p2, .int .i64 s2, .int .i64 q2]] w fun e w' => e = .returned (.bool true) ∧ Below w.heap.size w w' := by
  have e1 := Lib.hid he1
  have e2 := Lib.hid he2
  obtain ⟨b1, b2, b3, b4, b5, b6, b7⟩ := keyW_bd p s q he1
  obtain ⟨d1, d2, d3, d4, d5, d6, d7⟩ := keyW_bd p2 s2 q2 he2
  generalize hX : keyW p s q = X at *
  generalize hY : keyW p2 s2 q2 = Y at *
  have HX := Lib.hid hX
  have HY := Lib.hid hY
  have u1 : X < 18446744073709551615 := by omega
  have u2 : Y < 18446744073709551615 := by omega
  have t1 : decide (p < p2) = false := by simp; omega
  have t2 : (p == p2) = true := by simp; omega
  have t3 : decide (s < s2) = false := by simp; omega
  have t4 : (s == s2) = false := by simp; omega
  have v1 : decide (X < Y) = false := by simp; omega
  have v2 : (X == Y) = false := by simp; omega
  clear hX hY he1 he2 b1 b2 b3 b4 b5 b6 b7 d1 d2 d3 d4 d5 d6 d7 c1 c2
  go_enter Try.func10, Try.ntmps10
  go_wp2_with fail
  refine (wordKnown_walk _).mono ?_
  rintro e w' ⟨rfl, hb1⟩
  have hB : Below (w.heap.size + 2) (w.alloc (.cells #[.int .i64 p, .int .i64 s, .int .i64 q] 29) |>.alloc (.cells #[.int .i64 p2, .int .i64 s2, .int .i64 q2] 29)) w' := hb1.mono (by simp)
  have hc := bel_cell hB
  clear hb1
  go_wp2_with (first | (go_at_call 20; refine (putKey_any _ _ _ _).mono ?_; rintro e w' ⟨rfl, hb1⟩; have hBn : Below (w.heap.size + 2) _ w' := (kc_call hb1 (by (repeat (first | (with_reducible assumption) | exact Below.refl _ _ | (with_reducible refine kb_drew ?_) | (with_reducible refine kb_drewN ?_) | (with_reducible refine k_drewN ?_) | (with_reducible refine kb_alloc ?_) | (with_reducible refine kc_alloc ?_ (by simp only [World.size_alloc]; omega)) | (with_reducible refine k_drew ?_) | (with_reducible refine k_alloc ?_) | (with_reducible refine Below.setCell ?_ (by first | (simp; done) | (simp only; omega)) _) | (with_reducible refine kb_call (by with_reducible assumption) ?_) | (with_reducible refine kc_call (by with_reducible assumption) ?_ (by simp only [World.size_alloc]; omega)) | (with_reducible refine k_call (by with_reducible assumption) ?_)))) (by simp)); clear hB hc hb1; have hB := hBn; have hc := bel_cell hB; clear hBn; first | rw [e1.out, HX.out] | rw [e2.out, HY.out]))
  go_ret
  exact ⟨rfl, Below.trans (by (repeat (first | (with_reducible assumption) | exact Below.refl _ _ | (with_reducible refine kb_drew ?_) | (with_reducible refine kb_drewN ?_) | (with_reducible refine k_drewN ?_) | (with_reducible refine kb_alloc ?_) | (with_reducible refine kc_alloc ?_ (by simp only [World.size_alloc]; omega)) | (with_reducible refine k_drew ?_) | (with_reducible refine k_alloc ?_) | (with_reducible refine Below.setCell ?_ (by first | (simp; done) | (simp only; omega)) _) | (with_reducible refine kb_call (by with_reducible assumption) ?_) | (with_reducible refine kc_call (by with_reducible assumption) ?_ (by simp only [World.size_alloc]; omega)) | (with_reducible refine k_call (by with_reducible assumption) ?_)))) (hB.mono (by omega))⟩

set_option maxHeartbeats 2000000 in
theorem wordSooner_lt3 (p s q p2 s2 q2 : Int) (w : World) (he1 : keyE p s q = 0) (he2 : keyE p2 s2 q2 = 0) (c1 : p = p2) (c2 : s = s2) (c3 : q < q2) :
    Calls Try.prog 10 #[.agg #[.int .i64 p, .int .i64 s, .int .i64 q], .agg #[.int .i64 p2, .int .i64 s2, .int .i64 q2]] w fun e w' => e = .returned (.bool true) ∧ Below w.heap.size w w' := by
  have e1 := Lib.hid he1
  have e2 := Lib.hid he2
  obtain ⟨b1, b2, b3, b4, b5, b6, b7⟩ := keyW_bd p s q he1
  obtain ⟨d1, d2, d3, d4, d5, d6, d7⟩ := keyW_bd p2 s2 q2 he2
  generalize hX : keyW p s q = X at *
  generalize hY : keyW p2 s2 q2 = Y at *
  have HX := Lib.hid hX
  have HY := Lib.hid hY
  have u1 : X < 18446744073709551615 := by omega
  have u2 : Y < 18446744073709551615 := by omega
  have t1 : decide (p < p2) = false := by simp; omega
  have t2 : (p == p2) = true := by simp; omega
  have t3 : decide (s < s2) = false := by simp; omega
  have t4 : (s == s2) = true := by simp; omega
  have t5 : decide (q < q2) = true := by simp; omega
  have t6 : (q == q2) = false := by simp; omega
  have v1 : decide (X < Y) = true := by simp; omega
  have v2 : (X == Y) = false := by simp; omega
  clear hX hY he1 he2 b1 b2 b3 b4 b5 b6 b7 d1 d2 d3 d4 d5 d6 d7 c1 c2 c3
  go_enter Try.func10, Try.ntmps10
  go_wp2_with fail
  refine (wordKnown_walk _).mono ?_
  rintro e w' ⟨rfl, hb1⟩
  have hB : Below (w.heap.size + 2) (w.alloc (.cells #[.int .i64 p, .int .i64 s, .int .i64 q] 29) |>.alloc (.cells #[.int .i64 p2, .int .i64 s2, .int .i64 q2] 29)) w' := hb1.mono (by simp)
  have hc := bel_cell hB
  clear hb1
  go_wp2_with (first | (go_at_call 20; refine (putKey_any _ _ _ _).mono ?_; rintro e w' ⟨rfl, hb1⟩; have hBn : Below (w.heap.size + 2) _ w' := (kc_call hb1 (by (repeat (first | (with_reducible assumption) | exact Below.refl _ _ | (with_reducible refine kb_drew ?_) | (with_reducible refine kb_drewN ?_) | (with_reducible refine k_drewN ?_) | (with_reducible refine kb_alloc ?_) | (with_reducible refine kc_alloc ?_ (by simp only [World.size_alloc]; omega)) | (with_reducible refine k_drew ?_) | (with_reducible refine k_alloc ?_) | (with_reducible refine Below.setCell ?_ (by first | (simp; done) | (simp only; omega)) _) | (with_reducible refine kb_call (by with_reducible assumption) ?_) | (with_reducible refine kc_call (by with_reducible assumption) ?_ (by simp only [World.size_alloc]; omega)) | (with_reducible refine k_call (by with_reducible assumption) ?_)))) (by simp)); clear hB hc hb1; have hB := hBn; have hc := bel_cell hB; clear hBn; first | rw [e1.out, HX.out] | rw [e2.out, HY.out]))
  go_ret
  exact ⟨rfl, Below.trans (by (repeat (first | (with_reducible assumption) | exact Below.refl _ _ | (with_reducible refine kb_drew ?_) | (with_reducible refine kb_drewN ?_) | (with_reducible refine k_drewN ?_) | (with_reducible refine kb_alloc ?_) | (with_reducible refine kc_alloc ?_ (by simp only [World.size_alloc]; omega)) | (with_reducible refine k_drew ?_) | (with_reducible refine k_alloc ?_) | (with_reducible refine Below.setCell ?_ (by first | (simp; done) | (simp only; omega)) _) | (with_reducible refine kb_call (by with_reducible assumption) ?_) | (with_reducible refine kc_call (by with_reducible assumption) ?_ (by simp only [World.size_alloc]; omega)) | (with_reducible refine k_call (by with_reducible assumption) ?_)))) (hB.mono (by omega))⟩

set_option maxHeartbeats 2000000 in
theorem wordSooner_gt3 (p s q p2 s2 q2 : Int) (w : World) (he1 : keyE p s q = 0) (he2 : keyE p2 s2 q2 = 0) (c1 : p = p2) (c2 : s = s2) (c3 : q2 < q) :
    Calls Try.prog 10 #[.agg #[.int .i64 p, .int .i64 s, .int .i64 q], .agg #[.int .i64 p2, .int .i64 s2, .int .i64 q2]] w fun e w' => e = .returned (.bool true) ∧ Below w.heap.size w w' := by
  have e1 := Lib.hid he1
  have e2 := Lib.hid he2
  obtain ⟨b1, b2, b3, b4, b5, b6, b7⟩ := keyW_bd p s q he1
  obtain ⟨d1, d2, d3, d4, d5, d6, d7⟩ := keyW_bd p2 s2 q2 he2
  generalize hX : keyW p s q = X at *
  generalize hY : keyW p2 s2 q2 = Y at *
  have HX := Lib.hid hX
  have HY := Lib.hid hY
  have u1 : X < 18446744073709551615 := by omega
  have u2 : Y < 18446744073709551615 := by omega
  have t1 : decide (p < p2) = false := by simp; omega
  have t2 : (p == p2) = true := by simp; omega
  have t3 : decide (s < s2) = false := by simp; omega
  have t4 : (s == s2) = true := by simp; omega
  have t5 : decide (q < q2) = false := by simp; omega
  have t6 : (q == q2) = false := by simp; omega
  have v1 : decide (X < Y) = false := by simp; omega
  have v2 : (X == Y) = false := by simp; omega
  clear hX hY he1 he2 b1 b2 b3 b4 b5 b6 b7 d1 d2 d3 d4 d5 d6 d7 c1 c2 c3
  go_enter Try.func10, Try.ntmps10
  go_wp2_with fail
  refine (wordKnown_walk _).mono ?_
  rintro e w' ⟨rfl, hb1⟩
  have hB : Below (w.heap.size + 2) (w.alloc (.cells #[.int .i64 p, .int .i64 s, .int .i64 q] 29) |>.alloc (.cells #[.int .i64 p2, .int .i64 s2, .int .i64 q2] 29)) w' := hb1.mono (by simp)
  have hc := bel_cell hB
  clear hb1
  go_wp2_with (first | (go_at_call 20; refine (putKey_any _ _ _ _).mono ?_; rintro e w' ⟨rfl, hb1⟩; have hBn : Below (w.heap.size + 2) _ w' := (kc_call hb1 (by (repeat (first | (with_reducible assumption) | exact Below.refl _ _ | (with_reducible refine kb_drew ?_) | (with_reducible refine kb_drewN ?_) | (with_reducible refine k_drewN ?_) | (with_reducible refine kb_alloc ?_) | (with_reducible refine kc_alloc ?_ (by simp only [World.size_alloc]; omega)) | (with_reducible refine k_drew ?_) | (with_reducible refine k_alloc ?_) | (with_reducible refine Below.setCell ?_ (by first | (simp; done) | (simp only; omega)) _) | (with_reducible refine kb_call (by with_reducible assumption) ?_) | (with_reducible refine kc_call (by with_reducible assumption) ?_ (by simp only [World.size_alloc]; omega)) | (with_reducible refine k_call (by with_reducible assumption) ?_)))) (by simp)); clear hB hc hb1; have hB := hBn; have hc := bel_cell hB; clear hBn; first | rw [e1.out, HX.out] | rw [e2.out, HY.out]))
  go_ret
  exact ⟨rfl, Below.trans (by (repeat (first | (with_reducible assumption) | exact Below.refl _ _ | (with_reducible refine kb_drew ?_) | (with_reducible refine kb_drewN ?_) | (with_reducible refine k_drewN ?_) | (with_reducible refine kb_alloc ?_) | (with_reducible refine kc_alloc ?_ (by simp only [World.size_alloc]; omega)) | (with_reducible refine k_drew ?_) | (with_reducible refine k_alloc ?_) | (with_reducible refine Below.setCell ?_ (by first | (simp; done) | (simp only; omega)) _) | (with_reducible refine kb_call (by with_reducible assumption) ?_) | (with_reducible refine kc_call (by with_reducible assumption) ?_ (by simp only [World.size_alloc]; omega)) | (with_reducible refine k_call (by with_reducible assumption) ?_)))) (hB.mono (by omega))⟩

set_option maxHeartbeats 2000000 in
theorem wordSooner_eq (p s q p2 s2 q2 : Int) (w : World) (he1 : keyE p s q = 0) (he2 : keyE p2 s2 q2 = 0) (c1 : p = p2) (c2 : s = s2) (c3 : q = q2) :
    Calls Try.prog 10 #[.agg #[.int .i64 p, .int .i64 s, .int .i64 q], .agg #[.int .i64 p2, .int .i64 s2, .int .i64 q2]] w fun e w' => e = .returned (.bool true) ∧ Below w.heap.size w w' := by
  have e1 := Lib.hid he1
  have e2 := Lib.hid he2
  obtain ⟨b1, b2, b3, b4, b5, b6, b7⟩ := keyW_bd p s q he1
  obtain ⟨d1, d2, d3, d4, d5, d6, d7⟩ := keyW_bd p2 s2 q2 he2
  generalize hX : keyW p s q = X at *
  generalize hY : keyW p2 s2 q2 = Y at *
  have HX := Lib.hid hX
  have HY := Lib.hid hY
  have u1 : X < 18446744073709551615 := by omega
  have u2 : Y < 18446744073709551615 := by omega
  have t1 : decide (p < p2) = false := by simp; omega
  have t2 : (p == p2) = true := by simp; omega
  have t3 : decide (s < s2) = false := by simp; omega
  have t4 : (s == s2) = true := by simp; omega
  have t5 : decide (q < q2) = false := by simp; omega
  have t6 : (q == q2) = true := by simp; omega
  have v1 : decide (X < Y) = false := by simp; omega
  have v2 : (X == Y) = true := by simp; omega
  clear hX hY he1 he2 b1 b2 b3 b4 b5 b6 b7 d1 d2 d3 d4 d5 d6 d7 c1 c2 c3
  go_enter Try.func10, Try.ntmps10
  go_wp2_with fail
  refine (wordKnown_walk _).mono ?_
  rintro e w' ⟨rfl, hb1⟩
  have hB : Below (w.heap.size + 2) (w.alloc (.cells #[.int .i64 p, .int .i64 s, .int .i64 q] 29) |>.alloc (.cells #[.int .i64 p2, .int .i64 s2, .int .i64 q2] 29)) w' := hb1.mono (by simp)
  have hc := bel_cell hB
  clear hb1
  go_wp2_with (first | (go_at_call 20; refine (putKey_any _ _ _ _).mono ?_; rintro e w' ⟨rfl, hb1⟩; have hBn : Below (w.heap.size + 2) _ w' := (kc_call hb1 (by (repeat (first | (with_reducible assumption) | exact Below.refl _ _ | (with_reducible refine kb_drew ?_) | (with_reducible refine kb_drewN ?_) | (with_reducible refine k_drewN ?_) | (with_reducible refine kb_alloc ?_) | (with_reducible refine kc_alloc ?_ (by simp only [World.size_alloc]; omega)) | (with_reducible refine k_drew ?_) | (with_reducible refine k_alloc ?_) | (with_reducible refine Below.setCell ?_ (by first | (simp; done) | (simp only; omega)) _) | (with_reducible refine kb_call (by with_reducible assumption) ?_) | (with_reducible refine kc_call (by with_reducible assumption) ?_ (by simp only [World.size_alloc]; omega)) | (with_reducible refine k_call (by with_reducible assumption) ?_)))) (by simp)); clear hB hc hb1; have hB := hBn; have hc := bel_cell hB; clear hBn; first | rw [e1.out, HX.out] | rw [e2.out, HY.out]))
  go_ret
  exact ⟨rfl, Below.trans (by (repeat (first | (with_reducible assumption) | exact Below.refl _ _ | (with_reducible refine kb_drew ?_) | (with_reducible refine kb_drewN ?_) | (with_reducible refine k_drewN ?_) | (with_reducible refine kb_alloc ?_) | (with_reducible refine kc_alloc ?_ (by simp only [World.size_alloc]; omega)) | (with_reducible refine k_drew ?_) | (with_reducible refine k_alloc ?_) | (with_reducible refine Below.setCell ?_ (by first | (simp; done) | (simp only; omega)) _) | (with_reducible refine kb_call (by with_reducible assumption) ?_) | (with_reducible refine kc_call (by with_reducible assumption) ?_ (by simp only [World.size_alloc]; omega)) | (with_reducible refine k_call (by with_reducible assumption) ?_)))) (hB.mono (by omega))⟩

theorem wordSooner_walk (p s q p2 s2 q2 : Int) (w : World) :
    Calls Try.prog 10 #[.agg #[.int .i64 p, .int .i64 s, .int .i64 q], .agg #[.int .i64 p2, .int .i64 s2, .int .i64 q2]] w fun e w' => e = .returned (.bool true) ∧ Below w.heap.size w w' := by
  by_cases h1 : keyE p s q = 0
  · by_cases h2 : keyE p2 s2 q2 = 0
    · by_cases c1 : p < p2
      · exact wordSooner_lt1 p s q p2 s2 q2 w h1 h2 c1
      · by_cases c2 : p2 < p
        · exact wordSooner_gt1 p s q p2 s2 q2 w h1 h2 c2
        · have c3 : p = p2 := by omega
          by_cases c4 : s < s2
          · exact wordSooner_lt2 p s q p2 s2 q2 w h1 h2 c3 c4
          · by_cases c5 : s2 < s
            · exact wordSooner_gt2 p s q p2 s2 q2 w h1 h2 c3 c5
            · have c6 : s = s2 := by omega
              by_cases c7 : q < q2
              · exact wordSooner_lt3 p s q p2 s2 q2 w h1 h2 c3 c6 c7
              · by_cases c8 : q2 < q
                · exact wordSooner_gt3 p s q p2 s2 q2 w h1 h2 c3 c6 c8
                · exact wordSooner_eq p s q p2 s2 q2 w h1 h2 c3 c6 (by omega)
    · exact wordSooner_no p s q p2 s2 q2 _ _ w rfl rfl (.inr h2)
  · exact wordSooner_no p s q p2 s2 q2 _ _ w rfl rfl (.inl h1)
end Go.Proofs.Ytbkaclkbjpdfnaa
