/- The contracts of the functions of package word, the second part: Put and Get of each kind. -/
import Derived.Test.YtbkaclkbjpdfnaaWc
namespace Go.Proofs.Ytbkaclkbjpdfnaa
open Go.RowKit

set_option maxHeartbeats 400000 in
theorem putRef_any (i g : Int) (m : Bool) (w : World) :
    Calls Try.prog 14 #[.agg #[.int .i64 i, .int .i64 g, .bool m]] w fun e w' => e = .returned (.tuple #[.int .u64 (refW i g m), .int .i64 (refE i g)]) ∧ Below w.heap.size w w' := by
  by_cases hr : -1 ≤ i ∧ i ≤ 65534 ∧ 0 ≤ g ∧ g ≤ 4294967295
  · have hd := Lib.hid (decide_eq_true hr)
    obtain ⟨r1, r2, r3, r4⟩ := hr
    by_cases hf : i = -1 ∧ g ≠ 0
    · have hE : refE i g = 5 := by unfold refE; rw [if_neg (by omega), if_pos hf]
      have hW : refW i g m = 0 := by unfold refW; rw [hE]; rfl
      rw [hE, hW]
      clear hE hW
      have f1 : (i == -1) = true := by simp [hf.1]
      have f2 : (g != 0) = true := by simp [hf.2]
      clear hf
      go_enter Try.func14, Try.ntmps14
      go_wp2_with fail
      refine (within2 i (-1) 65534 g 0 4294967295 _ _ (by go_simp) (by go_simp) (by go_simp) (by go_simp) (by go_simp) (by go_simp)).mono ?_
      rintro e w1 ⟨rfl, hb1⟩
      have q0 := k_call hb1 (a := ⟨w.heap.size, 0, none⟩) (v := .int .i64 i) (by go_simp)
      have q1 := k_call hb1 (a := ⟨w.heap.size, 1, none⟩) (v := .int .i64 g) (by go_simp)
      have hB : Below w.heap.size w w1 := kb_call hb1 (by go_grown)
      clear hb1
      rw [hd.out]
      go_wp2
      go_ret2
      exact ⟨rfl, hB⟩
    · have hE : refE i g = 0 := by unfold refE; rw [if_neg (by omega), if_neg hf]
      have f1 : ((i == -1) && (g != 0)) = false := by
        cases hx : (i == -1) <;> simp at hx ⊢
        apply Decidable.byContradiction; intro hg; exact hf ⟨hx, hg⟩
      obtain ⟨hL, hW⟩ := refL i g m ⟨r1, r2, r3, r4⟩ hE
      have HL := Lib.hid hL
      have HW := Lib.hid hW
      rw [hE]
      clear hE hf hL hW
      have step : ∀ P : Prop, ((i == -1) = true → (g != 0) = false → P) → ((i == -1) = false → P) → P := by
        intro P a b
        cases hx : (i == -1)
        · exact b hx
        · exact a hx (by rw [hx] at f1; simpa using f1)
      clear f1
      apply step <;> clear step
      all_goals
        intros
        go_enter Try.func14, Try.ntmps14
        go_wp2_with fail
        refine (within2 i (-1) 65534 g 0 4294967295 _ _ (by go_simp) (by go_simp) (by go_simp) (by go_simp) (by go_simp) (by go_simp)).mono ?_
        rintro e w1 ⟨rfl, hb1⟩
        have q0 := k_call hb1 (a := ⟨w.heap.size, 0, none⟩) (v := .int .i64 i) (by go_simp)
        have q1 := k_call hb1 (a := ⟨w.heap.size, 1, none⟩) (v := .int .i64 g) (by go_simp)
        have q2 := k_call hb1 (a := ⟨w.heap.size, 2, none⟩) (v := .bool m) (by go_simp)
        have hB : Below w.heap.size w w1 := kb_call hb1 (by go_grown)
        clear hb1
        rw [hd.out]
        go_wp2_with fail
        refine (refs_any _).mono ?_
        rintro e w2 ⟨rfl, hb1⟩
        have q3 := k_call hb1 q0
        have q4 := k_call hb1 q1
        have q5 := k_call hb1 q2
        have hB2 : Below w.heap.size w w2 := kb_call hb1 hB
        clear hb1 q0 q1 q2 hB
        go_wp2_with fail
        have hw1 : IntKind.i64.wrap (i + 1) = i + 1 := IntWalk.i64_in _ (by omega)
        go_region_held3 (fun W => W.cell? ⟨w.heap.size, 0, none⟩ = some (.int .i64 i) ∧ W.cell? ⟨w.heap.size, 1, none⟩ = some (.int .i64 g) ∧ W.cell? ⟨w.heap.size, 2, none⟩ = some (.bool m) ∧
            W.cell? ⟨w2.heap.size, 0, none⟩ = some (.int .i64 0) ∧ W.cell? ⟨w2.heap.size, 1, none⟩ = some (.int .i64 16) ∧ W.cell? ⟨w2.heap.size, 2, none⟩ = some (.int .i64 16) ∧ W.cell? ⟨w2.heap.size, 3, none⟩ = some (.int .i64 32) ∧ Below w.heap.size w W) (((try go_split_ands); (repeat' apply And.intro) <;> (first | (with_reducible assumption) | ((repeat (first | (with_reducible assumption) | exact Below.refl _ _ | (with_reducible refine kb_drew ?_) | (with_reducible refine kb_drewN ?_) | (with_reducible refine k_drewN ?_) | (with_reducible refine kb_alloc ?_) | (with_reducible refine kc_alloc ?_ (by simp only [World.size_alloc]; omega)) | (with_reducible refine k_drew ?_) | (with_reducible refine k_alloc ?_) | (with_reducible refine Below.setCell ?_ (by first | (simp; done) | (simp only; omega)) _) | (with_reducible refine kb_call (by with_reducible assumption) ?_) | (with_reducible refine kc_call (by with_reducible assumption) ?_ (by simp only [World.size_alloc]; omega)) | (with_reducible refine k_call (by with_reducible assumption) ?_))); done) | (with_reducible exact k_realloc (by with_reducible assumption) (by simp only; omega)) | (go_simp; done) | (simp [*]; done))))
          (first
            | (go_at_call 64; refine (lay2 0 16 16 32 (i + 1) g _ _ _ (by omega) ?_ ?_ ?_ ?_ ?_ ?_).mono ?_; (next => go_simp); (next => go_simp); (next => go_simp); (next => go_simp); (next => go_simp); (next => go_simp); rintro e w' ⟨rfl, hb1⟩)
            | (go_at_call 52; refine (marks_any _ _ _ HL.out).mono ?_; rintro e w' ⟨rfl, hb1⟩))
        have hB3 : Below w.heap.size w w' := by go_split_ands; assumption
        go_wp2
        go_ret2
        exact ⟨congrArg (fun x => Ending.returned (.tuple #[.int .u64 x, .int .i64 0])) HW.out, hB3⟩
  · have hd := Lib.hid (decide_eq_false hr)
    have hE : refE i g = 3 := by unfold refE; rw [if_pos (by omega)]
    have hW : refW i g m = 0 := by unfold refW; rw [hE]; rfl
    rw [hE, hW]
    clear hE hW hr
    go_enter Try.func14, Try.ntmps14
    go_wp2_with fail
    refine (within2 i (-1) 65534 g 0 4294967295 _ _ (by go_simp) (by go_simp) (by go_simp) (by go_simp) (by go_simp) (by go_simp)).mono ?_
    rintro e w1 ⟨rfl, hb1⟩
    have hB : Below w.heap.size w w1 := kb_call hb1 (by go_grown)
    clear hb1
    rw [hd.out]
    go_wp2
    go_ret2
    exact ⟨rfl, hB⟩

set_option maxHeartbeats 400000 in
theorem putTop_any (i t : Int) (w : World) :
    Calls Try.prog 16 #[.agg #[.int .i64 i, .int .i64 t]] w fun e w' => e = .returned (.tuple #[.int .u64 (topwW i t), .int .i64 (topE i t)]) ∧ Below w.heap.size w w' := by
  by_cases hr : -1 ≤ i ∧ i ≤ 65534 ∧ 0 ≤ t ∧ t ≤ 281474976710655
  · have hd := Lib.hid (decide_eq_true hr)
    have hW := Lib.hid (topL i t hr)
    obtain ⟨r1, r2, r3, r4⟩ := hr
    have hE : topE i t = 0 := by unfold topE; rw [if_neg (by omega)]
    rw [hE]
    clear hE
    go_enter Try.func16, Try.ntmps16
    go_wp2_with fail
    refine (within2 i (-1) 65534 t 0 281474976710655 _ _ (by go_simp) (by go_simp) (by go_simp) (by go_simp) (by go_simp) (by go_simp)).mono ?_
    rintro e w1 ⟨rfl, hb1⟩
    have q0 := k_call hb1 (a := ⟨w.heap.size, 0, none⟩) (v := .int .i64 i) (by go_simp)
    have q1 := k_call hb1 (a := ⟨w.heap.size, 1, none⟩) (v := .int .i64 t) (by go_simp)
    have hB : Below w.heap.size w w1 := kb_call hb1 (by go_grown)
    clear hb1
    rw [hd.out]
    go_wp2_with fail
    refine (tops_any _).mono ?_
    rintro e w2 ⟨rfl, hb1⟩
    have q3 := k_call hb1 q0
    have q4 := k_call hb1 q1
    have hB2 : Below w.heap.size w w2 := kb_call hb1 hB
    clear hb1 q0 q1 hB
    go_wp2_with fail
    have hw1 : IntKind.i64.wrap (i + 1) = i + 1 := IntWalk.i64_in _ (by omega)
    go_region_held3 (fun W => W.cell? ⟨w.heap.size, 0, none⟩ = some (.int .i64 i) ∧ W.cell? ⟨w.heap.size, 1, none⟩ = some (.int .i64 t) ∧
        W.cell? ⟨w2.heap.size, 0, none⟩ = some (.int .i64 0) ∧ W.cell? ⟨w2.heap.size, 1, none⟩ = some (.int .i64 16) ∧ W.cell? ⟨w2.heap.size, 2, none⟩ = some (.int .i64 16) ∧ W.cell? ⟨w2.heap.size, 3, none⟩ = some (.int .i64 48) ∧ Below w.heap.size w W) (((try go_split_ands); (repeat' apply And.intro) <;> (first | (with_reducible assumption) | ((repeat (first | (with_reducible assumption) | exact Below.refl _ _ | (with_reducible refine kb_drew ?_) | (with_reducible refine kb_drewN ?_) | (with_reducible refine k_drewN ?_) | (with_reducible refine kb_alloc ?_) | (with_reducible refine kc_alloc ?_ (by simp only [World.size_alloc]; omega)) | (with_reducible refine k_drew ?_) | (with_reducible refine k_alloc ?_) | (with_reducible refine Below.setCell ?_ (by first | (simp; done) | (simp only; omega)) _) | (with_reducible refine kb_call (by with_reducible assumption) ?_) | (with_reducible refine kc_call (by with_reducible assumption) ?_ (by simp only [World.size_alloc]; omega)) | (with_reducible refine k_call (by with_reducible assumption) ?_))); done) | (with_reducible exact k_realloc (by with_reducible assumption) (by simp only; omega)) | (go_simp; done) | (simp [*]; done))))
      (first
        | (go_at_call 64; refine (lay2 0 16 16 48 (i + 1) t _ _ _ (by omega) ?_ ?_ ?_ ?_ ?_ ?_).mono ?_; (next => go_simp); (next => go_simp); (next => go_simp); (next => go_simp); (next => go_simp); (next => go_simp); rintro e w' ⟨rfl, hb1⟩))
    have hB3 : Below w.heap.size w w' := by go_split_ands; assumption
    go_wp2
    go_ret2
    exact ⟨congrArg (fun x => Ending.returned (.tuple #[.int .u64 x, .int .i64 0])) hW.out, hB3⟩
  · have hd := Lib.hid (decide_eq_false hr)
    have hE : topE i t = 3 := by unfold topE; rw [if_pos (by omega)]
    have hW : topwW i t = 0 := by unfold topwW; rw [hE]; rfl
    rw [hE, hW]
    clear hE hW hr
    go_enter Try.func16, Try.ntmps16
    go_wp2_with fail
    refine (within2 i (-1) 65534 t 0 281474976710655 _ _ (by go_simp) (by go_simp) (by go_simp) (by go_simp) (by go_simp) (by go_simp)).mono ?_
    rintro e w1 ⟨rfl, hb1⟩
    have hB : Below w.heap.size w w1 := kb_call hb1 (by go_grown)
    clear hb1
    rw [hd.out]
    go_wp2
    go_ret2
    exact ⟨rfl, hB⟩

set_option maxHeartbeats 400000 in
theorem putKey_any (p s q : Int) (w : World) :
    Calls Try.prog 20 #[.agg #[.int .i64 p, .int .i64 s, .int .i64 q]] w fun e w' => e = .returned (.tuple #[.int .u64 (keyW p s q), .int .i64 (keyE p s q)]) ∧ Below w.heap.size w w' := by
  by_cases hr : 0 ≤ q ∧ q ≤ 65535 ∧ 0 ≤ s ∧ s ≤ 1099511627775 ∧ 0 ≤ p ∧ p ≤ 254
  · have hd := Lib.hid (decide_eq_true hr)
    have hW := Lib.hid (keyL p s q hr)
    have hE : keyE p s q = 0 := by unfold keyE; rw [if_neg (by omega)]
    rw [hE]
    clear hE hr
    go_enter Try.func20, Try.ntmps20
    go_wp2_with fail
    refine (within3 q 0 65535 s 0 1099511627775 p 0 254 _ _ (by go_simp) (by go_simp) (by go_simp) (by go_simp) (by go_simp) (by go_simp) (by go_simp) (by go_simp) (by go_simp)).mono ?_
    rintro e w1 ⟨rfl, hb1⟩
    have q0 := k_call hb1 (a := ⟨w.heap.size, 0, none⟩) (v := .int .i64 p) (by go_simp)
    have q1 := k_call hb1 (a := ⟨w.heap.size, 1, none⟩) (v := .int .i64 s) (by go_simp)
    have q2 := k_call hb1 (a := ⟨w.heap.size, 2, none⟩) (v := .int .i64 q) (by go_simp)
    have hB : Below w.heap.size w w1 := kb_call hb1 (by go_grown)
    clear hb1
    rw [hd.out]
    go_wp2_with fail
    refine (keys_any _).mono ?_
    rintro e w2 ⟨rfl, hb1⟩
    have q3 := k_call hb1 q0
    have q4 := k_call hb1 q1
    have q5 := k_call hb1 q2
    have hB2 : Below w.heap.size w w2 := kb_call hb1 hB
    clear hb1 q0 q1 q2 hB
    go_wp2_with fail
    go_region_held3 (fun W => W.cell? ⟨w.heap.size, 0, none⟩ = some (.int .i64 p) ∧ W.cell? ⟨w.heap.size, 1, none⟩ = some (.int .i64 s) ∧ W.cell? ⟨w.heap.size, 2, none⟩ = some (.int .i64 q) ∧
        W.cell? ⟨w2.heap.size, 0, none⟩ = some (.int .i64 0) ∧ W.cell? ⟨w2.heap.size, 1, none⟩ = some (.int .i64 16) ∧ W.cell? ⟨w2.heap.size, 2, none⟩ = some (.int .i64 16) ∧ W.cell? ⟨w2.heap.size, 3, none⟩ = some (.int .i64 40) ∧ W.cell? ⟨w2.heap.size, 4, none⟩ = some (.int .i64 56) ∧ W.cell? ⟨w2.heap.size, 5, none⟩ = some (.int .i64 8) ∧ Below w.heap.size w W) (((try go_split_ands); (repeat' apply And.intro) <;> (first | (with_reducible assumption) | ((repeat (first | (with_reducible assumption) | exact Below.refl _ _ | (with_reducible refine kb_drew ?_) | (with_reducible refine kb_drewN ?_) | (with_reducible refine k_drewN ?_) | (with_reducible refine kb_alloc ?_) | (with_reducible refine kc_alloc ?_ (by simp only [World.size_alloc]; omega)) | (with_reducible refine k_drew ?_) | (with_reducible refine k_alloc ?_) | (with_reducible refine Below.setCell ?_ (by first | (simp; done) | (simp only; omega)) _) | (with_reducible refine kb_call (by with_reducible assumption) ?_) | (with_reducible refine kc_call (by with_reducible assumption) ?_ (by simp only [World.size_alloc]; omega)) | (with_reducible refine k_call (by with_reducible assumption) ?_))); done) | (with_reducible exact k_realloc (by with_reducible assumption) (by simp only; omega)) | (go_simp; done) | (simp [*]; done))))
      (first
        | (go_at_call 64; refine (lay3 0 16 16 40 56 8 q s p _ _ _ (by omega) ?_ ?_ ?_ ?_ ?_ ?_ ?_ ?_ ?_).mono ?_; (next => go_simp); (next => go_simp); (next => go_simp); (next => go_simp); (next => go_simp); (next => go_simp); (next => go_simp); (next => go_simp); (next => go_simp); rintro e w' ⟨rfl, hb1⟩))
    have hB3 : Below w.heap.size w w' := by go_split_ands; assumption
    go_wp2
    go_ret2
    exact ⟨congrArg (fun x => Ending.returned (.tuple #[.int .u64 x, .int .i64 0])) hW.out, hB3⟩
  · have hd := Lib.hid (decide_eq_false hr)
    have hE : keyE p s q = 3 := by unfold keyE; rw [if_pos (by omega)]
    have hW : keyW p s q = 0 := by unfold keyW; rw [hE]; rfl
    rw [hE, hW]
    clear hE hW hr
    go_enter Try.func20, Try.ntmps20
    go_wp2_with fail
    refine (within3 q 0 65535 s 0 1099511627775 p 0 254 _ _ (by go_simp) (by go_simp) (by go_simp) (by go_simp) (by go_simp) (by go_simp) (by go_simp) (by go_simp) (by go_simp)).mono ?_
    rintro e w1 ⟨rfl, hb1⟩
    have hB : Below w.heap.size w w1 := kb_call hb1 (by go_grown)
    clear hb1
    rw [hd.out]
    go_wp2
    go_ret2
    exact ⟨rfl, hB⟩
end Go.Proofs.Ytbkaclkbjpdfnaa
