/- The walks of the statements of layer 1: what its helpers answer. -/
import Derived.Test.YtbkaclkbjpdfnaaWd
import Derived.Test.YtbkaclkbjpdfnaaWe
import Derived.Test.YtbkaclkbjpdfnaaWg
import Derived.Test.YtbkaclkbjpdfnaaWh
import Derived.Test.YtbkaclkbjpdfnaaWs
namespace Go.Proofs.Ytbkaclkbjpdfnaa
open Go.RowKit

set_option maxHeartbeats 400000 in
theorem lref_any (i g : Int) (m : Bool) (want err : Int) (w : World) :
    Calls Try.prog 46 #[.agg #[.int .i64 i, .int .i64 g, .bool m], .int .u64 want, .int .i64 err] w fun e w' => e = .returned (.bool (isRef i g m want err)) ∧ Below w.heap.size w w' := by
  by_cases h1 : refW i g m = want
  · have f1 : (refW i g m == want) = true := by simp [h1]
    have hV := Lib.hid (show (refE i g == err) = isRef i g m want err by unfold isRef; rw [f1]; rfl)
    clear h1
    go_enter Try.func46, Try.ntmps46
    go_wp2_with (first | (go_at_call 14; refine (putRef_any _ _ _ _).mono ?_; rintro e w1 ⟨rfl, hb1⟩))
    go_ret
    exact ⟨ret_bool hV.out, by (repeat (first | (with_reducible assumption) | exact Below.refl _ _ | (with_reducible refine kb_drew ?_) | (with_reducible refine kb_drewN ?_) | (with_reducible refine k_drewN ?_) | (with_reducible refine kb_alloc ?_) | (with_reducible refine kc_alloc ?_ (by simp only [World.size_alloc]; omega)) | (with_reducible refine k_drew ?_) | (with_reducible refine k_alloc ?_) | (with_reducible refine Below.setCell ?_ (by first | (simp; done) | (simp only; omega)) _) | (with_reducible refine kb_call (by with_reducible assumption) ?_) | (with_reducible refine kc_call (by with_reducible assumption) ?_ (by simp only [World.size_alloc]; omega)) | (with_reducible refine k_call (by with_reducible assumption) ?_)))⟩
  · have f1 : (refW i g m == want) = false := by simp [h1]
    have hV := Lib.hid (show false = isRef i g m want err by unfold isRef; rw [f1]; rfl)
    clear h1
    go_enter Try.func46, Try.ntmps46
    go_wp2_with (first | (go_at_call 14; refine (putRef_any _ _ _ _).mono ?_; rintro e w1 ⟨rfl, hb1⟩))
    go_ret
    exact ⟨ret_bool hV.out, by (repeat (first | (with_reducible assumption) | exact Below.refl _ _ | (with_reducible refine kb_drew ?_) | (with_reducible refine kb_drewN ?_) | (with_reducible refine k_drewN ?_) | (with_reducible refine kb_alloc ?_) | (with_reducible refine kc_alloc ?_ (by simp only [World.size_alloc]; omega)) | (with_reducible refine k_drew ?_) | (with_reducible refine k_alloc ?_) | (with_reducible refine Below.setCell ?_ (by first | (simp; done) | (simp only; omega)) _) | (with_reducible refine kb_call (by with_reducible assumption) ?_) | (with_reducible refine kc_call (by with_reducible assumption) ?_ (by simp only [World.size_alloc]; omega)) | (with_reducible refine k_call (by with_reducible assumption) ?_)))⟩

set_option maxHeartbeats 400000 in
theorem ltop_any (i g : Int) (want err : Int) (w : World) :
    Calls Try.prog 61 #[.agg #[.int .i64 i, .int .i64 g], .int .u64 want, .int .i64 err] w fun e w' => e = .returned (.bool (isTop i g want err)) ∧ Below w.heap.size w w' := by
  by_cases h1 : topwW i g = want
  · have f1 : (topwW i g == want) = true := by simp [h1]
    have hV := Lib.hid (show (topE i g == err) = isTop i g want err by unfold isTop; rw [f1]; rfl)
    clear h1
    go_enter Try.func61, Try.ntmps61
    go_wp2_with (first | (go_at_call 16; refine (putTop_any _ _ _).mono ?_; rintro e w1 ⟨rfl, hb1⟩))
    go_ret
    exact ⟨ret_bool hV.out, by (repeat (first | (with_reducible assumption) | exact Below.refl _ _ | (with_reducible refine kb_drew ?_) | (with_reducible refine kb_drewN ?_) | (with_reducible refine k_drewN ?_) | (with_reducible refine kb_alloc ?_) | (with_reducible refine kc_alloc ?_ (by simp only [World.size_alloc]; omega)) | (with_reducible refine k_drew ?_) | (with_reducible refine k_alloc ?_) | (with_reducible refine Below.setCell ?_ (by first | (simp; done) | (simp only; omega)) _) | (with_reducible refine kb_call (by with_reducible assumption) ?_) | (with_reducible refine kc_call (by with_reducible assumption) ?_ (by simp only [World.size_alloc]; omega)) | (with_reducible refine k_call (by with_reducible assumption) ?_)))⟩
  · have f1 : (topwW i g == want) = false := by simp [h1]
    have hV := Lib.hid (show false = isTop i g want err by unfold isTop; rw [f1]; rfl)
    clear h1
    go_enter Try.func61, Try.ntmps61
    go_wp2_with (first | (go_at_call 16; refine (putTop_any _ _ _).mono ?_; rintro e w1 ⟨rfl, hb1⟩))
    go_ret
    exact ⟨ret_bool hV.out, by (repeat (first | (with_reducible assumption) | exact Below.refl _ _ | (with_reducible refine kb_drew ?_) | (with_reducible refine kb_drewN ?_) | (with_reducible refine k_drewN ?_) | (with_reducible refine kb_alloc ?_) | (with_reducible refine kc_alloc ?_ (by simp only [World.size_alloc]; omega)) | (with_reducible refine k_drew ?_) | (with_reducible refine k_alloc ?_) | (with_reducible refine Below.setCell ?_ (by first | (simp; done) | (simp only; omega)) _) | (with_reducible refine kb_call (by with_reducible assumption) ?_) | (with_reducible refine kc_call (by with_reducible assumption) ?_ (by simp only [World.size_alloc]; omega)) | (with_reducible refine k_call (by with_reducible assumption) ?_)))⟩

set_option maxHeartbeats 400000 in
theorem lslot_any (i : Int) (m : Bool) (g : Int) (want err : Int) (w : World) :
    Calls Try.prog 50 #[.agg #[.int .i64 i, .bool m, .int .i64 g], .int .u64 want, .int .i64 err] w fun e w' => e = .returned (.bool (isSlot i m g want err)) ∧ Below w.heap.size w w' := by
  by_cases h1 : slotW i m g = want
  · have f1 : (slotW i m g == want) = true := by simp [h1]
    have hV := Lib.hid (show (slotE i m g == err) = isSlot i m g want err by unfold isSlot; rw [f1]; rfl)
    clear h1
    go_enter Try.func50, Try.ntmps50
    go_wp2_with (first | (go_at_call 18; refine (putSlot_any _ _ _ _).mono ?_; rintro e w1 ⟨rfl, hb1⟩))
    go_ret
    exact ⟨ret_bool hV.out, by (repeat (first | (with_reducible assumption) | exact Below.refl _ _ | (with_reducible refine kb_drew ?_) | (with_reducible refine kb_drewN ?_) | (with_reducible refine k_drewN ?_) | (with_reducible refine kb_alloc ?_) | (with_reducible refine kc_alloc ?_ (by simp only [World.size_alloc]; omega)) | (with_reducible refine k_drew ?_) | (with_reducible refine k_alloc ?_) | (with_reducible refine Below.setCell ?_ (by first | (simp; done) | (simp only; omega)) _) | (with_reducible refine kb_call (by with_reducible assumption) ?_) | (with_reducible refine kc_call (by with_reducible assumption) ?_ (by simp only [World.size_alloc]; omega)) | (with_reducible refine k_call (by with_reducible assumption) ?_)))⟩
  · have f1 : (slotW i m g == want) = false := by simp [h1]
    have hV := Lib.hid (show false = isSlot i m g want err by unfold isSlot; rw [f1]; rfl)
    clear h1
    go_enter Try.func50, Try.ntmps50
    go_wp2_with (first | (go_at_call 18; refine (putSlot_any _ _ _ _).mono ?_; rintro e w1 ⟨rfl, hb1⟩))
    go_ret
    exact ⟨ret_bool hV.out, by (repeat (first | (with_reducible assumption) | exact Below.refl _ _ | (with_reducible refine kb_drew ?_) | (with_reducible refine kb_drewN ?_) | (with_reducible refine k_drewN ?_) | (with_reducible refine kb_alloc ?_) | (with_reducible refine kc_alloc ?_ (by simp only [World.size_alloc]; omega)) | (with_reducible refine k_drew ?_) | (with_reducible refine k_alloc ?_) | (with_reducible refine Below.setCell ?_ (by first | (simp; done) | (simp only; omega)) _) | (with_reducible refine kb_call (by with_reducible assumption) ?_) | (with_reducible refine kc_call (by with_reducible assumption) ?_ (by simp only [World.size_alloc]; omega)) | (with_reducible refine k_call (by with_reducible assumption) ?_)))⟩

set_option maxHeartbeats 400000 in
theorem lkey_any (i g q : Int) (want err : Int) (w : World) :
    Calls Try.prog 51 #[.agg #[.int .i64 i, .int .i64 g, .int .i64 q], .int .u64 want, .int .i64 err] w fun e w' => e = .returned (.bool (isKey i g q want err)) ∧ Below w.heap.size w w' := by
  by_cases h1 : keyW i g q = want
  · have f1 : (keyW i g q == want) = true := by simp [h1]
    have hV := Lib.hid (show (keyE i g q == err) = isKey i g q want err by unfold isKey; rw [f1]; rfl)
    clear h1
    go_enter Try.func51, Try.ntmps51
    go_wp2_with (first | (go_at_call 20; refine (putKey_any _ _ _ _).mono ?_; rintro e w1 ⟨rfl, hb1⟩))
    go_ret
    exact ⟨ret_bool hV.out, by (repeat (first | (with_reducible assumption) | exact Below.refl _ _ | (with_reducible refine kb_drew ?_) | (with_reducible refine kb_drewN ?_) | (with_reducible refine k_drewN ?_) | (with_reducible refine kb_alloc ?_) | (with_reducible refine kc_alloc ?_ (by simp only [World.size_alloc]; omega)) | (with_reducible refine k_drew ?_) | (with_reducible refine k_alloc ?_) | (with_reducible refine Below.setCell ?_ (by first | (simp; done) | (simp only; omega)) _) | (with_reducible refine kb_call (by with_reducible assumption) ?_) | (with_reducible refine kc_call (by with_reducible assumption) ?_ (by simp only [World.size_alloc]; omega)) | (with_reducible refine k_call (by with_reducible assumption) ?_)))⟩
  · have f1 : (keyW i g q == want) = false := by simp [h1]
    have hV := Lib.hid (show false = isKey i g q want err by unfold isKey; rw [f1]; rfl)
    clear h1
    go_enter Try.func51, Try.ntmps51
    go_wp2_with (first | (go_at_call 20; refine (putKey_any _ _ _ _).mono ?_; rintro e w1 ⟨rfl, hb1⟩))
    go_ret
    exact ⟨ret_bool hV.out, by (repeat (first | (with_reducible assumption) | exact Below.refl _ _ | (with_reducible refine kb_drew ?_) | (with_reducible refine kb_drewN ?_) | (with_reducible refine k_drewN ?_) | (with_reducible refine kb_alloc ?_) | (with_reducible refine kc_alloc ?_ (by simp only [World.size_alloc]; omega)) | (with_reducible refine k_drew ?_) | (with_reducible refine k_alloc ?_) | (with_reducible refine Below.setCell ?_ (by first | (simp; done) | (simp only; omega)) _) | (with_reducible refine kb_call (by with_reducible assumption) ?_) | (with_reducible refine kc_call (by with_reducible assumption) ?_ (by simp only [World.size_alloc]; omega)) | (with_reducible refine k_call (by with_reducible assumption) ?_)))⟩

set_option maxHeartbeats 400000 in
theorem lawake_any (w : World) : Calls Try.prog 22 #[] w fun e w' => e = .returned (.bool true) ∧ Below w.heap.size w w' := by
  have h1 := Lib.hid (show isRef 0 1 false 65537 0 = true by decide)
  have h2 := Lib.hid (show isTop 4 7 458757 0 = true by decide)
  have h3 := Lib.hid (show isSlot 2 true 9 8590000137 0 = true by decide)
  have h4 := Lib.hid (show isKey 1 2 3 72057594038059011 0 = true by decide)
  go_enter Try.func22, Try.ntmps22
  go_wp2_with (first
    | (go_at_call 46; refine (lref_any _ _ _ _ _ _).mono ?_; rintro e w1 ⟨rfl, hb1⟩; rw [h1.out])
    | (go_at_call 61; refine (ltop_any _ _ _ _ _).mono ?_; rintro e w2 ⟨rfl, hb2⟩; rw [h2.out])
    | (go_at_call 50; refine (lslot_any _ _ _ _ _ _).mono ?_; rintro e w3 ⟨rfl, hb3⟩; rw [h3.out])
    | (go_at_call 51; refine (lkey_any _ _ _ _ _ _).mono ?_; rintro e w4 ⟨rfl, hb4⟩; rw [h4.out]))
  go_ret
  exact ⟨rfl, by (repeat (first | (with_reducible assumption) | exact Below.refl _ _ | (with_reducible refine kb_drew ?_) | (with_reducible refine kb_drewN ?_) | (with_reducible refine k_drewN ?_) | (with_reducible refine kb_alloc ?_) | (with_reducible refine kc_alloc ?_ (by simp only [World.size_alloc]; omega)) | (with_reducible refine k_drew ?_) | (with_reducible refine k_alloc ?_) | (with_reducible refine Below.setCell ?_ (by first | (simp; done) | (simp only; omega)) _) | (with_reducible refine kb_call (by with_reducible assumption) ?_) | (with_reducible refine kc_call (by with_reducible assumption) ?_ (by simp only [World.size_alloc]; omega)) | (with_reducible refine k_call (by with_reducible assumption) ?_)))⟩
end Go.Proofs.Ytbkaclkbjpdfnaa
