/- The walks of the statements of layer 1, the third part: WordGets. -/
import Derived.Test.YtbkaclkbjpdfnaaWl
import Derived.Test.YtbkaclkbjpdfnaaWp
namespace Go.Proofs.Ytbkaclkbjpdfnaa
open Go.RowKit

set_option maxHeartbeats 2000000 in
theorem wordGets_walk (x : Int) (b : Bool) (w : World) (hx : isW x) :
    Calls Try.prog 11 #[.int .u64 x, .bool b] w fun e w' => e = .returned (.bool true) ∧ Below w.heap.size w w' := by
  have HX := Lib.hid hx
  clear hx
  obtain ⟨a1, b1, c1, hR⟩ := getRefV_form x
  have HR := Lib.hid hR
  obtain ⟨a2, c2, b2, hS⟩ := getSlotV_form x
  have HS := Lib.hid hS
  obtain ⟨a3, b3, c3, hK⟩ := getKeyV_form x
  have HK := Lib.hid hK
  have HT := Lib.hid (show getTopV x = .agg #[.int .i64 (partW x 0 16 - 1), .int .i64 (partW x 16 48)] from rfl)
  clear hR hS hK
  go_enter Try.func11, Try.ntmps11
  go_wp2_with fail
  refine (getRef_any _ _ HX.out).mono ?_
  rintro e w1 ⟨rfl, hB1⟩
  rw [HR.out]
  go_wp2_with fail
  refine (rgetRef_any _ _ HX.out).mono ?_
  rintro e w2 ⟨rfl, hb1⟩
  have q1_0 := k_call hb1 (a := ⟨w1.heap.size, 0, none⟩) (v := .int .i64 a1) (by go_simp)
  have q1_1 := k_call hb1 (a := ⟨w1.heap.size, 1, none⟩) (v := .int .i64 b1) (by go_simp)
  have q1_2 := k_call hb1 (a := ⟨w1.heap.size, 2, none⟩) (v := .bool c1) (by go_simp)
  have hB2 : Below w.heap.size w w2 := kb_call hb1 (kb_alloc hB1)
  clear hb1 hB1
  rw [HR.out]
  go_wp2_with fail
  refine (getTop_any _ _ HX.out).mono ?_
  rintro e w3 ⟨rfl, hb1⟩
  have q1_0_ := k_call hb1 (k_alloc q1_0); clear q1_0
  have q1_0 := q1_0_; clear q1_0_
  have q1_1_ := k_call hb1 (k_alloc q1_1); clear q1_1
  have q1_1 := q1_1_; clear q1_1_
  have q1_2_ := k_call hb1 (k_alloc q1_2); clear q1_2
  have q1_2 := q1_2_; clear q1_2_
  have q2_0 := k_call hb1 (a := ⟨w2.heap.size, 0, none⟩) (v := .int .i64 a1) (by go_simp)
  have q2_1 := k_call hb1 (a := ⟨w2.heap.size, 1, none⟩) (v := .int .i64 b1) (by go_simp)
  have q2_2 := k_call hb1 (a := ⟨w2.heap.size, 2, none⟩) (v := .bool c1) (by go_simp)
  have hB3 : Below w.heap.size w w3 := kb_call hb1 (kb_alloc hB2)
  clear hb1 hB2
  rw [HT.out]
  go_wp2_with fail
  refine (rgetTop_any _ _ HX.out).mono ?_
  rintro e w4 ⟨rfl, hb1⟩
  have q1_0_ := k_call hb1 (k_alloc q1_0); clear q1_0
  have q1_0 := q1_0_; clear q1_0_
  have q1_1_ := k_call hb1 (k_alloc q1_1); clear q1_1
  have q1_1 := q1_1_; clear q1_1_
  have q1_2_ := k_call hb1 (k_alloc q1_2); clear q1_2
  have q1_2 := q1_2_; clear q1_2_
  have q2_0_ := k_call hb1 (k_alloc q2_0); clear q2_0
  have q2_0 := q2_0_; clear q2_0_
  have q2_1_ := k_call hb1 (k_alloc q2_1); clear q2_1
  have q2_1 := q2_1_; clear q2_1_
  have q2_2_ := k_call hb1 (k_alloc q2_2); clear q2_2
  have q2_2 := q2_2_; clear q2_2_
  have q3_0 := k_call hb1 (a := ⟨w3.heap.size, 0, none⟩) (v := .int .i64 (partW x 0 16 - 1)) (by go_simp)
  have q3_1 := k_call hb1 (a := ⟨w3.heap.size, 1, none⟩) (v := .int .i64 (partW x 16 48)) (by go_simp)
  have hB4 : Below w.heap.size w w4 := kb_call hb1 (kb_alloc hB3)
  clear hb1 hB3
  have r1_0 := fun o => k_alloc (o := o) q1_0
  have r1_1 := fun o => k_alloc (o := o) q1_1
  have r1_2 := fun o => k_alloc (o := o) q1_2
  have r2_0 := fun o => k_alloc (o := o) q2_0
  have r2_1 := fun o => k_alloc (o := o) q2_1
  have r2_2 := fun o => k_alloc (o := o) q2_2
  have r3_0 := fun o => k_alloc (o := o) q3_0
  have r3_1 := fun o => k_alloc (o := o) q3_1
  rw [HT.out]
  go_wp2_with fail
  refine (getSlot_any _ _ HX.out).mono ?_
  rintro e w5 ⟨rfl, hb1⟩
  clear r1_0 r1_1 r1_2 r2_0 r2_1 r2_2 r3_0 r3_1
  have q1_0_ := k_call hb1 (k_alloc q1_0); clear q1_0
  have q1_0 := q1_0_; clear q1_0_
  have q1_1_ := k_call hb1 (k_alloc q1_1); clear q1_1
  have q1_1 := q1_1_; clear q1_1_
  have q1_2_ := k_call hb1 (k_alloc q1_2); clear q1_2
  have q1_2 := q1_2_; clear q1_2_
  have q2_0_ := k_call hb1 (k_alloc q2_0); clear q2_0
  have q2_0 := q2_0_; clear q2_0_
  have q2_1_ := k_call hb1 (k_alloc q2_1); clear q2_1
  have q2_1 := q2_1_; clear q2_1_
  have q2_2_ := k_call hb1 (k_alloc q2_2); clear q2_2
  have q2_2 := q2_2_; clear q2_2_
  have q3_0_ := k_call hb1 (k_alloc q3_0); clear q3_0
  have q3_0 := q3_0_; clear q3_0_
  have q3_1_ := k_call hb1 (k_alloc q3_1); clear q3_1
  have q3_1 := q3_1_; clear q3_1_
  have q4_0 := k_call hb1 (a := ⟨w4.heap.size, 0, none⟩) (v := .int .i64 (partW x 0 16 - 1)) (by go_simp)
  have q4_1 := k_call hb1 (a := ⟨w4.heap.size, 1, none⟩) (v := .int .i64 (partW x 16 48)) (by go_simp)
  have hB5 : Below w.heap.size w w5 := kb_call hb1 (kb_alloc hB4)
  clear hb1 hB4
  rw [HS.out]
  go_wp2_with fail
  refine (rgetSlot_any _ _ HX.out).mono ?_
  rintro e w6 ⟨rfl, hb1⟩
  have q5_0 := k_call hb1 (a := ⟨w5.heap.size, 0, none⟩) (v := .int .i64 a2) (by go_simp)
  have q5_1 := k_call hb1 (a := ⟨w5.heap.size, 1, none⟩) (v := .bool c2) (by go_simp)
  have q5_2 := k_call hb1 (a := ⟨w5.heap.size, 2, none⟩) (v := .int .i64 b2) (by go_simp)
  have hB6 : Below w.heap.size w w6 := kb_call hb1 (kb_alloc hB5)
  clear hb1 hB5
  rw [HS.out]
  go_wp2_with fail
  refine (getKey_any _ _ HX.out).mono ?_
  rintro e w7 ⟨rfl, hb1⟩
  have q5_0_ := k_call hb1 (k_alloc q5_0); clear q5_0
  have q5_0 := q5_0_; clear q5_0_
  have q5_1_ := k_call hb1 (k_alloc q5_1); clear q5_1
  have q5_1 := q5_1_; clear q5_1_
  have q5_2_ := k_call hb1 (k_alloc q5_2); clear q5_2
  have q5_2 := q5_2_; clear q5_2_
  have q6_0 := k_call hb1 (a := ⟨w6.heap.size, 0, none⟩) (v := .int .i64 a2) (by go_simp)
  have q6_1 := k_call hb1 (a := ⟨w6.heap.size, 1, none⟩) (v := .bool c2) (by go_simp)
  have q6_2 := k_call hb1 (a := ⟨w6.heap.size, 2, none⟩) (v := .int .i64 b2) (by go_simp)
  have hB7 : Below w.heap.size w w7 := kb_call hb1 (kb_alloc hB6)
  clear hb1 hB6
  rw [HK.out]
  go_wp2_with fail
  refine (rgetKey_any _ _ HX.out).mono ?_
  rintro e w8 ⟨rfl, hb1⟩
  have q5_0_ := k_call hb1 (k_alloc q5_0); clear q5_0
  have q5_0 := q5_0_; clear q5_0_
  have q5_1_ := k_call hb1 (k_alloc q5_1); clear q5_1
  have q5_1 := q5_1_; clear q5_1_
  have q5_2_ := k_call hb1 (k_alloc q5_2); clear q5_2
  have q5_2 := q5_2_; clear q5_2_
  have q6_0_ := k_call hb1 (k_alloc q6_0); clear q6_0
  have q6_0 := q6_0_; clear q6_0_
  have q6_1_ := k_call hb1 (k_alloc q6_1); clear q6_1
  have q6_1 := q6_1_; clear q6_1_
  have q6_2_ := k_call hb1 (k_alloc q6_2); clear q6_2
  have q6_2 := q6_2_; clear q6_2_
  have q7_0 := k_call hb1 (a := ⟨w7.heap.size, 0, none⟩) (v := .int .i64 a3) (by go_simp)
  have q7_1 := k_call hb1 (a := ⟨w7.heap.size, 1, none⟩) (v := .int .i64 b3) (by go_simp)
  have q7_2 := k_call hb1 (a := ⟨w7.heap.size, 2, none⟩) (v := .int .i64 c3) (by go_simp)
  have hB8 : Below w.heap.size w w8 := kb_call hb1 (kb_alloc hB7)
  clear hb1 hB7
  have r5_0 := fun o => k_alloc (o := o) q5_0
  have r5_1 := fun o => k_alloc (o := o) q5_1
  have r5_2 := fun o => k_alloc (o := o) q5_2
  have r6_0 := fun o => k_alloc (o := o) q6_0
  have r6_1 := fun o => k_alloc (o := o) q6_1
  have r6_2 := fun o => k_alloc (o := o) q6_2
  have r7_0 := fun o => k_alloc (o := o) q7_0
  have r7_1 := fun o => k_alloc (o := o) q7_1
  have r7_2 := fun o => k_alloc (o := o) q7_2
  rw [HK.out]
  go_wp2_with (first
    | (go_at_call 53; refine (marked_any _ _ HX.out).mono ?_; rintro e w' ⟨rfl, rfl⟩)
    | (go_at_call 59; refine (rmarked_any _ _ HX.out).mono ?_; rintro e w' ⟨rfl, rfl⟩)
    | (go_at_call 52; refine (marks_any _ _ _ HX.out).mono ?_; rintro e w9 ⟨rfl, hb1⟩)
    | (go_at_call 60; refine (rmarks_any _ _ _ HX.out).mono ?_; rintro e w' ⟨rfl, rfl⟩)
    | (go_at_call 22; refine (lawake_any _).mono ?_; rintro e w10 ⟨rfl, hb2⟩))
  go_ret
  exact ⟨rfl, by (repeat (first | (with_reducible assumption) | exact Below.refl _ _ | (with_reducible refine kb_drew ?_) | (with_reducible refine kb_drewN ?_) | (with_reducible refine k_drewN ?_) | (with_reducible refine kb_alloc ?_) | (with_reducible refine kc_alloc ?_ (by simp only [World.size_alloc]; omega)) | (with_reducible refine k_drew ?_) | (with_reducible refine k_alloc ?_) | (with_reducible refine Below.setCell ?_ (by first | (simp; done) | (simp only; omega)) _) | (with_reducible refine kb_call (by with_reducible assumption) ?_) | (with_reducible refine kc_call (by with_reducible assumption) ?_ (by simp only [World.size_alloc]; omega)) | (with_reducible refine k_call (by with_reducible assumption) ?_)))⟩
end Go.Proofs.Ytbkaclkbjpdfnaa
