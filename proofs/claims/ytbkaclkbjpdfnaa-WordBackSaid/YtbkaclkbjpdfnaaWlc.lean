/- The walks of the statements of layer 1, the fourth part: WordKnown. -/
import Derived.Test.YtbkaclkbjpdfnaaWl
import Derived.Test.YtbkaclkbjpdfnaaWp
namespace Go.Proofs.Ytbkaclkbjpdfnaa
open Go.RowKit

theorem getRefV_no {x : Int} (h : getRefOk x = false) : getRefV x = .agg #[.int .i64 0, .int .i64 0, .bool false] ∧ getRefE x = 5 := by unfold getRefV getRefE; rw [h]; exact ⟨rfl, rfl⟩
theorem getRefV_yes {x : Int} (h : getRefOk x = true) : getRefV x = .agg #[.int .i64 (getRefI x), .int .i64 (getRefG x), .bool (markedW x)] ∧ getRefE x = 0 := by unfold getRefV getRefE; rw [h]; exact ⟨rfl, rfl⟩
theorem getSlotV_no {x : Int} (h : getSlotOk x = false) : getSlotV x = .agg #[.int .i64 0, .bool false, .int .i64 0] ∧ getSlotE x = 5 := by unfold getSlotV getSlotE; rw [h]; exact ⟨rfl, rfl⟩
theorem getSlotV_yes {x : Int} (h : getSlotOk x = true) : getSlotV x = .agg #[.int .i64 (partW x 32 32), .bool (partW x 16 1 == 1), .int .i64 (partW x 0 16)] ∧ getSlotE x = 0 := by unfold getSlotV getSlotE; rw [h]; exact ⟨rfl, rfl⟩
theorem getKeyV_no {x : Int} (h : getKeyOk x = false) : getKeyV x = .agg #[.int .i64 0, .int .i64 0, .int .i64 0] ∧ getKeyE x = 5 := by unfold getKeyV getKeyE; rw [h]; exact ⟨rfl, rfl⟩
theorem getKeyV_yes {x : Int} (h : getKeyOk x = true) : getKeyV x = .agg #[.int .i64 (partW x 56 8), .int .i64 (partW x 16 40), .int .i64 (partW x 0 16)] ∧ getKeyE x = 0 := by unfold getKeyV getKeyE; rw [h]; exact ⟨rfl, rfl⟩

set_option maxHeartbeats 2000000 in
theorem wordKnown_walk (w : World) : Calls Try.prog 9 #[] w fun e w' => e = .returned (.bool true) ∧ Below w.heap.size w w' := by
  have r1 := Lib.hid (show isRef 2 5 true 9223372036855103491 0 = true by decide)
  have r2 := Lib.hid (show isRef (-1) 0 false 0 0 = true by decide)
  have r3 := Lib.hid (show isRef (-1) 0 true 9223372036854775808 0 = true by decide)
  have r4 := Lib.hid (show isRef (-2) 0 false 0 3 = true by decide)
  have r5 := Lib.hid (show isRef (-1) 1 false 0 5 = true by decide)
  have s1 := Lib.hid (show isSlot 2 false 0 8589934592 0 = true by decide)
  have s2 := Lib.hid (show isSlot 0 false 5 0 5 = true by decide)
  have k1 := Lib.hid (show isKey 255 0 0 0 3 = true by decide)
  have m1 := Lib.hid (show marksW 1 true = 9223372036854775809 by decide)
  have m2 := Lib.hid (show markedW 1 = false by decide)
  have g1 := Lib.hid (show getRefV 65537 = .agg #[.int .i64 0, .int .i64 1, .bool false] ∧ getRefE 65537 = 0 from getRefV_yes (by decide))
  have g2 := Lib.hid (show getRefV 65536 = _ ∧ getRefE 65536 = 5 from getRefV_no (by decide))
  have g3 := Lib.hid (show getRefV 281474976710657 = _ ∧ getRefE 281474976710657 = 5 from getRefV_no (by decide))
  have g4 := Lib.hid (show getSlotV 9 = _ ∧ getSlotE 9 = 5 from getSlotV_no (by decide))
  have g5 := Lib.hid (show getKeyV 18446744073709551615 = _ ∧ getKeyE 18446744073709551615 = 5 from getKeyV_no (by decide))
  go_enter Try.func9, Try.ntmps9
  go_wp2_with (first | (go_at_call 46; refine (lref_any _ _ _ _ _ _).mono ?_; rintro e w' ⟨rfl, hb1⟩; first | rw [r1.out] | rw [r2.out] | rw [r3.out]) | (go_at_call 47; fail))
  refine (getRef_any _ _ (by unfold isW; omega)).mono ?_
  rintro e w1 ⟨rfl, hb1⟩
  have hB1 : Below w.heap.size w w1 := by (repeat (first | (with_reducible assumption) | exact Below.refl _ _ | (with_reducible refine kb_drew ?_) | (with_reducible refine kb_drewN ?_) | (with_reducible refine k_drewN ?_) | (with_reducible refine kb_alloc ?_) | (with_reducible refine kc_alloc ?_ (by simp only [World.size_alloc]; omega)) | (with_reducible refine k_drew ?_) | (with_reducible refine k_alloc ?_) | (with_reducible refine Below.setCell ?_ (by first | (simp; done) | (simp only; omega)) _) | (with_reducible refine kb_call (by with_reducible assumption) ?_) | (with_reducible refine kc_call (by with_reducible assumption) ?_ (by simp only [World.size_alloc]; omega)) | (with_reducible refine k_call (by with_reducible assumption) ?_)))
  clear hb1
  rw [g1.out.1, g1.out.2]
  go_wp2_with fail
  refine (getRef_any _ _ (by unfold isW; omega)).mono ?_
  rintro e w2 ⟨rfl, hb1⟩
  have q0 := k_call hb1 (a := ⟨w1.heap.size, 0, none⟩) (v := .int .i64 0) (by go_simp)
  have q1 := k_call hb1 (a := ⟨w1.heap.size, 1, none⟩) (v := .int .i64 1) (by go_simp)
  have q2 := k_call hb1 (a := ⟨w1.heap.size, 2, none⟩) (v := .bool false) (by go_simp)
  have hB2 : Below w.heap.size w w2 := kb_call hb1 (kb_alloc hB1)
  clear hb1 hB1
  rw [g2.out.1, g2.out.2]
  go_wp2_with fail
  refine (getRef_any _ _ (by unfold isW; omega)).mono ?_
  rintro e w3 ⟨rfl, hb1⟩
  have q0_ := k_call hb1 (k_alloc q0); clear q0
  have q0 := q0_; clear q0_
  have q1_ := k_call hb1 (k_alloc q1); clear q1
  have q1 := q1_; clear q1_
  have q2_ := k_call hb1 (k_alloc q2); clear q2
  have q2 := q2_; clear q2_
  have hB3 : Below w.heap.size w w3 := kb_call hb1 (kb_alloc hB2)
  clear hb1 hB2
  rw [g3.out.1, g3.out.2]
  go_wp2_with fail
  refine (getSlot_any _ _ (by unfold isW; omega)).mono ?_
  rintro e w4 ⟨rfl, hb1⟩
  have q0_ := k_call hb1 (k_alloc q0); clear q0
  have q0 := q0_; clear q0_
  have q1_ := k_call hb1 (k_alloc q1); clear q1
  have q1 := q1_; clear q1_
  have q2_ := k_call hb1 (k_alloc q2); clear q2
  have q2 := q2_; clear q2_
  have hB4 : Below w.heap.size w w4 := kb_call hb1 (kb_alloc hB3)
  clear hb1 hB3
  rw [g4.out.1, g4.out.2]
  go_wp2_with fail
  refine (getKey_any _ _ (by unfold isW; omega)).mono ?_
  rintro e w5 ⟨rfl, hb1⟩
  have q0_ := k_call hb1 (k_alloc q0); clear q0
  have q0 := q0_; clear q0_
  have q1_ := k_call hb1 (k_alloc q1); clear q1
  have q1 := q1_; clear q1_
  have q2_ := k_call hb1 (k_alloc q2); clear q2
  have q2 := q2_; clear q2_
  have hB5 : Below w.heap.size w w5 := kb_call hb1 (kb_alloc hB4)
  clear hb1 hB4
  have r0 := fun o => k_alloc (o := o) q0
  have r1 := fun o => k_alloc (o := o) q1
  have r2 := fun o => k_alloc (o := o) q2
  rw [g5.out.1, g5.out.2]
  go_wp2_with fail
  go_wp2_with (first
    | (go_at_call 46; refine (lref_any _ _ _ _ _ _).mono ?_; rintro e w' ⟨rfl, hb1⟩; first | rw [r4.out] | rw [r5.out])
    | (go_at_call 50; refine (lslot_any _ _ _ _ _ _).mono ?_; rintro e w' ⟨rfl, hb1⟩; first | rw [s1.out] | rw [s2.out])
    | (go_at_call 51; refine (lkey_any _ _ _ _ _ _).mono ?_; rintro e w' ⟨rfl, hb1⟩; rw [k1.out])
    | (go_at_call 22; refine (lawake_any _).mono ?_; rintro e w' ⟨rfl, hb1⟩)
    | (go_at_call 52; refine (marks_any _ _ _ (by unfold isW; omega)).mono ?_; rintro e w' ⟨rfl, hb1⟩; rw [m1.out])
    | (go_at_call 53; refine (marked_any _ _ (by unfold isW; omega)).mono ?_; rintro e w' ⟨rfl, rfl⟩; rw [m2.out]))
  go_ret
  exact ⟨rfl, by (repeat (first | (with_reducible assumption) | exact Below.refl _ _ | (with_reducible refine kb_drew ?_) | (with_reducible refine kb_drewN ?_) | (with_reducible refine k_drewN ?_) | (with_reducible refine kb_alloc ?_) | (with_reducible refine kc_alloc ?_ (by simp only [World.size_alloc]; omega)) | (with_reducible refine k_drew ?_) | (with_reducible refine k_alloc ?_) | (with_reducible refine Below.setCell ?_ (by first | (simp; done) | (simp only; omega)) _) | (with_reducible refine kb_call (by with_reducible assumption) ?_) | (with_reducible refine kc_call (by with_reducible assumption) ?_ (by simp only [World.size_alloc]; omega)) | (with_reducible refine k_call (by with_reducible assumption) ?_)))⟩
end Go.Proofs.Ytbkaclkbjpdfnaa
