/- The contracts of the functions of package word, the fourth part: slots. -/
import Derived.Test.YtbkaclkbjpdfnaaWc
namespace Go.Proofs.Ytbkaclkbjpdfnaa
open Go.RowKit

set_option maxHeartbeats 1000000 in
theorem putSlot_any (l : Int) (f : Bool) (v : Int) (w : World) :
    Calls Try.prog 18 #[.agg #[.int .i64 l, .bool f, .int .i64 v]] w fun e w' => e = .returned (.tuple #[.int .u64 (slotW l f v), .int .i64 (slotE l f v)]) ∧ Below w.heap.size w w' := by
  by_cases hr : 0 ≤ l ∧ l ≤ 4294967295 ∧ 0 ≤ v ∧ v ≤ 65535
  · have hd := Lib.hid (decide_eq_true hr)
    by_cases hf : f = false ∧ v ≠ 0
    · have hE : slotE l f v = 5 := by unfold slotE; rw [if_neg (by omega), if_pos hf]
      have hW : slotW l f v = 0 := by unfold slotW; rw [hE]; rfl
      rw [hE, hW]
      clear hE hW hr
      obtain ⟨rfl, hv⟩ := hf
      have f2 : (v != 0) = true := by simp [hv]
      clear hv
      go_enter Try.func18, Try.ntmps18
      go_wp2_with fail
      refine (within2 l 0 4294967295 v 0 65535 _ _ (by go_simp) (by go_simp) (by go_simp) (by go_simp) (by go_simp) (by go_simp)).mono ?_
      rintro e w1 ⟨rfl, hb1⟩
      have q0 := k_call hb1 (a := ⟨w.heap.size, 1, none⟩) (v := .bool false) (by go_simp)
      have q1 := k_call hb1 (a := ⟨w.heap.size, 2, none⟩) (v := .int .i64 v) (by go_simp)
      have hB : Below w.heap.size w w1 := kb_call hb1 (by go_grown)
      clear hb1
      rw [hd.out]
      go_wp2
      go_ret2
      exact ⟨rfl, hB⟩
    · have hE : slotE l f v = 0 := by unfold slotE; rw [if_neg (by omega), if_neg hf]
      have HW := Lib.hid (slotL l f v hr hE)
      rw [hE]
      clear hE hr
      have f2 : f = false → (v != 0) = false := by
        intro h; simp; apply Decidable.byContradiction; intro hv; exact hf ⟨h, hv⟩
      clear hf
      cases f
      case false =>
        have f3 := f2 rfl
        clear f2
        go_enter Try.func18, Try.ntmps18
        go_wp2_with fail
        refine (within2 l 0 4294967295 v 0 65535 _ _ (by go_simp) (by go_simp) (by go_simp) (by go_simp) (by go_simp) (by go_simp)).mono ?_
        rintro e w1 ⟨rfl, hb1⟩
        have q0 := k_call hb1 (a := ⟨w.heap.size, 0, none⟩) (v := .int .i64 l) (by go_simp)
        have q1 := k_call hb1 (a := ⟨w.heap.size, 1, none⟩) (v := .bool false) (by go_simp)
        have q2 := k_call hb1 (a := ⟨w.heap.size, 2, none⟩) (v := .int .i64 v) (by go_simp)
        have hB : Below w.heap.size w w1 := kb_call hb1 (by go_grown)
        clear hb1
        rw [hd.out]
        go_wp2_with fail
        refine (slots_any _).mono ?_
        rintro e w2 ⟨rfl, hb1⟩
        have q3 := k_call hb1 q0
        have q4 := k_call hb1 q1
        have q5 := k_call hb1 q2
        have hB2 : Below w.heap.size w w2 := kb_call hb1 hB
        clear hb1 q0 q1 q2 hB
        go_wp2_with fail
        go_region_held3 (fun W => W.cell? ⟨w.heap.size, 0, none⟩ = some (.int .i64 l) ∧ W.cell? ⟨w.heap.size, 2, none⟩ = some (.int .i64 v) ∧
            W.cell? ⟨w2.heap.size, 0, none⟩ = some (.int .i64 0) ∧ W.cell? ⟨w2.heap.size, 1, none⟩ = some (.int .i64 16) ∧ W.cell? ⟨w2.heap.size, 2, none⟩ = some (.int .i64 16) ∧ W.cell? ⟨w2.heap.size, 3, none⟩ = some (.int .i64 1) ∧ W.cell? ⟨w2.heap.size, 4, none⟩ = some (.int .i64 32) ∧ W.cell? ⟨w2.heap.size, 5, none⟩ = some (.int .i64 32) ∧ Below w.heap.size w W) (((try go_split_ands); (repeat' apply And.intro) <;> (first | (with_reducible assumption) | ((repeat (first | (with_reducible assumption) | exact Below.refl _ _ | (with_reducible refine kb_drew ?_) | (with_reducible refine kb_drewN ?_) | (with_reducible refine k_drewN ?_) | (with_reducible refine kb_alloc ?_) | (with_reducible refine kc_alloc ?_ (by simp only [World.size_alloc]; omega)) | (with_reducible refine k_drew ?_) | (with_reducible refine k_alloc ?_) | (with_reducible refine Below.setCell ?_ (by first | (simp; done) | (simp only; omega)) _) | (with_reducible refine kb_call (by with_reducible assumption) ?_) | (with_reducible refine kc_call (by with_reducible assumption) ?_ (by simp only [World.size_alloc]; omega)) | (with_reducible refine k_call (by with_reducible assumption) ?_))); done) | (with_reducible exact k_realloc (by with_reducible assumption) (by simp only; omega)) | (go_simp; done) | (simp [*]; done))))
          (first
            | (go_at_call 64; refine (lay3 0 16 16 1 32 32 v (if false then 1 else 0) l _ _ _ (by omega) ?_ ?_ ?_ ?_ ?_ ?_ ?_ ?_ ?_).mono ?_; (next => go_simp); (next => go_simp); (next => go_simp); (next => go_simp); (next => go_simp); (next => go_simp); (next => go_simp); (next => go_simp); (next => go_simp); rintro e w' ⟨rfl, hb1⟩))
        have hB3 : Below w.heap.size w w' := by go_split_ands; assumption
        go_wp2
        go_ret2
        exact ⟨congrArg (fun x => Ending.returned (.tuple #[.int .u64 x, .int .i64 0])) HW.out, hB3⟩
      case true =>
        clear f2
        go_enter Try.func18, Try.ntmps18
        go_wp2_with fail
        refine (within2 l 0 4294967295 v 0 65535 _ _ (by go_simp) (by go_simp) (by go_simp) (by go_simp) (by go_simp) (by go_simp)).mono ?_
        rintro e w1 ⟨rfl, hb1⟩
        have q0 := k_call hb1 (a := ⟨w.heap.size, 0, none⟩) (v := .int .i64 l) (by go_simp)
        have q1 := k_call hb1 (a := ⟨w.heap.size, 1, none⟩) (v := .bool true) (by go_simp)
        have q2 := k_call hb1 (a := ⟨w.heap.size, 2, none⟩) (v := .int .i64 v) (by go_simp)
        have hB : Below w.heap.size w w1 := kb_call hb1 (by go_grown)
        clear hb1
        rw [hd.out]
        go_wp2_with fail
        refine (slots_any _).mono ?_
        rintro e w2 ⟨rfl, hb1⟩
        have q3 := k_call hb1 q0
        have q4 := k_call hb1 q1
        have q5 := k_call hb1 q2
        have hB2 : Below w.heap.size w w2 := kb_call hb1 hB
        clear hb1 q0 q1 q2 hB
        go_wp2_with fail
        go_region_held3 (fun W => W.cell? ⟨w.heap.size, 0, none⟩ = some (.int .i64 l) ∧ W.cell? ⟨w.heap.size, 2, none⟩ = some (.int .i64 v) ∧
            W.cell? ⟨w2.heap.size, 0, none⟩ = some (.int .i64 0) ∧ W.cell? ⟨w2.heap.size, 1, none⟩ = some (.int .i64 16) ∧ W.cell? ⟨w2.heap.size, 2, none⟩ = some (.int .i64 16) ∧ W.cell? ⟨w2.heap.size, 3, none⟩ = some (.int .i64 1) ∧ W.cell? ⟨w2.heap.size, 4, none⟩ = some (.int .i64 32) ∧ W.cell? ⟨w2.heap.size, 5, none⟩ = some (.int .i64 32) ∧ Below w.heap.size w W) (((try go_split_ands); (repeat' apply And.intro) <;> (first | (with_reducible assumption) | ((repeat (first | (with_reducible assumption) | exact Below.refl _ _ | (with_reducible refine kb_drew ?_) | (with_reducible refine kb_drewN ?_) | (with_reducible refine k_drewN ?_) | (with_reducible refine kb_alloc ?_) | (with_reducible refine kc_alloc ?_ (by simp only [World.size_alloc]; omega)) | (with_reducible refine k_drew ?_) | (with_reducible refine k_alloc ?_) | (with_reducible refine Below.setCell ?_ (by first | (simp; done) | (simp only; omega)) _) | (with_reducible refine kb_call (by with_reducible assumption) ?_) | (with_reducible refine kc_call (by with_reducible assumption) ?_ (by simp only [World.size_alloc]; omega)) | (with_reducible refine k_call (by with_reducible assumption) ?_))); done) | (with_reducible exact k_realloc (by with_reducible assumption) (by simp only; omega)) | (go_simp; done) | (simp [*]; done))))
          (first
            | (go_at_call 64; refine (lay3 0 16 16 1 32 32 v (if true then 1 else 0) l _ _ _ (by omega) ?_ ?_ ?_ ?_ ?_ ?_ ?_ ?_ ?_).mono ?_; (next => go_simp); (next => go_simp); (next => go_simp); (next => go_simp); (next => go_simp); (next => go_simp); (next => go_simp); (next => go_simp); (next => go_simp); rintro e w' ⟨rfl, hb1⟩))
        have hB3 : Below w.heap.size w w' := by go_split_ands; assumption
        go_wp2
        go_ret2
        exact ⟨congrArg (fun x => Ending.returned (.tuple #[.int .u64 x, .int .i64 0])) HW.out, hB3⟩
  · have hd := Lib.hid (decide_eq_false hr)
    have hE : slotE l f v = 3 := by unfold slotE; rw [if_pos (by omega)]
    have hW : slotW l f v = 0 := by unfold slotW; rw [hE]; rfl
    rw [hE, hW]
    clear hE hW hr
    go_enter Try.func18, Try.ntmps18
    go_wp2_with fail
    refine (within2 l 0 4294967295 v 0 65535 _ _ (by go_simp) (by go_simp) (by go_simp) (by go_simp) (by go_simp) (by go_simp)).mono ?_
    rintro e w1 ⟨rfl, hb1⟩
    have hB : Below w.heap.size w w1 := kb_call hb1 (by go_grown)
    clear hb1
    rw [hd.out]
    go_wp2
    go_ret2
    exact ⟨rfl, hB⟩
end Go.Proofs.Ytbkaclkbjpdfnaa
