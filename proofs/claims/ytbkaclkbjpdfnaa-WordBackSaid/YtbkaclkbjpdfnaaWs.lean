/- The contracts of the functions of the reference of package word, the second part: Get of each kind. -/
import Derived.Test.YtbkaclkbjpdfnaaWr
namespace Go.Proofs.Ytbkaclkbjpdfnaa
open Go.RowKit

set_option maxHeartbeats 4000000 in
theorem rgetRef_any (x : Int) (w : World) (hx : isW x) :
    Calls Try.prog 54 #[.int .u64 x] w fun e w' => e = .returned (.tuple #[getRefV x, .int .i64 (getRefE x)]) ∧ Below w.heap.size w w' := by
  have HX := Lib.hid hx
  have p1 : 0 ≤ partW x 0 16 ∧ partW x 0 16 < 65536 := partW_bd x 0 16
  have hw1 : IntKind.i64.wrap (partW x 0 16 - 1) = partW x 0 16 - 1 := IntWalk.i64_in _ (by omega)
  obtain ⟨p2, p3⟩ := p1
  clear hx
  go_enter Try.func54, Try.ntmps54
  go_wp2_with (first | (go_at_call 78; refine (rpart_any _ _ _ _ (by omega) (by omega) (by omega) (by omega) HX.out).mono ?_; rintro e w' ⟨rfl, n, rfl⟩) | (go_at_call 59; refine (rmarked_any _ _ HX.out).mono ?_; rintro e w' ⟨rfl, rfl⟩))
  refine (rputRef_any _ _ _ _).mono ?_
  rintro e w3 ⟨rfl, hb1⟩
  have d0 := k_call hb1 (a := ⟨w.heap.size + 1, 0, none⟩) (v := .int .i64 (partW x 0 16 - 1)) (by go_simp)
  have d1 := k_call hb1 (a := ⟨w.heap.size + 1, 1, none⟩) (v := .int .i64 (partW x 16 32)) (by go_simp)
  have d2 := k_call hb1 (a := ⟨w.heap.size + 1, 2, none⟩) (v := .bool (markedW x)) (by go_simp)
  have hB5 : Below (w.heap.size + 1) (w.alloc (.cells #[.int .i64 0, .int .i64 0, .bool false] 23)) w3 := kc_call hb1 (by (repeat (first | (with_reducible assumption) | exact Below.refl _ _ | (with_reducible refine kb_drew ?_) | (with_reducible refine kb_drewN ?_) | (with_reducible refine k_drewN ?_) | (with_reducible refine kb_alloc ?_) | (with_reducible refine kc_alloc ?_ (by simp only [World.size_alloc]; omega)) | (with_reducible refine k_drew ?_) | (with_reducible refine k_alloc ?_) | (with_reducible refine Below.setCell ?_ (by first | (simp; done) | (simp only; omega)) _) | (with_reducible refine kb_call (by with_reducible assumption) ?_) | (with_reducible refine kc_call (by with_reducible assumption) ?_ (by simp only [World.size_alloc]; omega)) | (with_reducible refine k_call (by with_reducible assumption) ?_)))) (by simp)
  clear hb1
  have r0 := (hB5.cell (p := ⟨w.heap.size, 0, none⟩) (Nat.lt_succ_self _)).trans (show _ = some (.int .i64 0) by go_simp)
  have r1 := (hB5.cell (p := ⟨w.heap.size, 1, none⟩) (Nat.lt_succ_self _)).trans (show _ = some (.int .i64 0) by go_simp)
  have r2 := (hB5.cell (p := ⟨w.heap.size, 2, none⟩) (Nat.lt_succ_self _)).trans (show _ = some (.bool false) by go_simp)
  have f0 := (hB5.frozen (p := ⟨w.heap.size, 0, none⟩) (Nat.lt_succ_self _)).trans (show _ = false by go_simp)
  have f1 := (hB5.frozen (p := ⟨w.heap.size, 1, none⟩) (Nat.lt_succ_self _)).trans (show _ = false by go_simp)
  have f2 := (hB5.frozen (p := ⟨w.heap.size, 2, none⟩) (Nat.lt_succ_self _)).trans (show _ = false by go_simp)
  have hB4 := below_step hB5
  clear hB5
  generalize hE : refE (partW x 0 16 - 1) (partW x 16 32) = E
  generalize hY : refW (partW x 0 16 - 1) (partW x 16 32) (markedW x) = Y
  have HE := Lib.hid hE
  have HY := Lib.hid hY
  clear hE hY
  have hno : E ≠ 0 ∨ Y ≠ x → getRefV x = .agg #[.int .i64 0, .int .i64 0, .bool false] ∧ getRefE x = 5 := by
    intro h
    have hk : getRefOk x = false := decide_eq_false (by unfold getRefI getRefG; rw [HE.out, HY.out]; omega)
    unfold getRefV getRefE; rw [hk]; exact ⟨rfl, rfl⟩
  have hyes : E = 0 → Y = x → getRefV x = .agg #[.int .i64 (partW x 0 16 - 1), .int .i64 (partW x 16 32), .bool (markedW x)] ∧ getRefE x = 0 := by
    intro h1 h2
    have hk : getRefOk x = true := decide_eq_true (by unfold getRefI getRefG; rw [HE.out, HY.out]; exact ⟨h1, h2⟩)
    unfold getRefV getRefE; rw [hk]; exact ⟨rfl, rfl⟩
  have Hno := Lib.hid hno
  have Hyes := Lib.hid hyes
  clear hno hyes HE HY
  by_cases hk : E = 0
  · have f3 : (E != 0) = false := by simp [hk]
    by_cases hk2 : Y = x
    · have f4 : (Y != x) = false := by simp [hk2]
      have HV := Lib.hid (Hyes.out hk hk2)
      clear hk hk2 Hyes Hno
      go_wp2
      refine bodyPost_ret (v := .tuple #[.agg #[.int .i64 (partW x 0 16 - 1), .int .i64 (partW x 16 32), .bool (markedW x)], .int .i64 0]) (by unfold results; rw [Try.results54]; go_simp) rfl ⟨by rw [HV.out.1, HV.out.2], ?_⟩
      (repeat (first | (with_reducible assumption) | exact Below.refl _ _ | (with_reducible refine kb_drew ?_) | (with_reducible refine kb_drewN ?_) | (with_reducible refine k_drewN ?_) | (with_reducible refine kb_alloc ?_) | (with_reducible refine kc_alloc ?_ (by simp only [World.size_alloc]; omega)) | (with_reducible refine k_drew ?_) | (with_reducible refine k_alloc ?_) | (with_reducible refine Below.setCell ?_ (by first | (simp; done) | (simp only; omega)) _) | (with_reducible refine kb_call (by with_reducible assumption) ?_) | (with_reducible refine kc_call (by with_reducible assumption) ?_ (by simp only [World.size_alloc]; omega)) | (with_reducible refine k_call (by with_reducible assumption) ?_)))
    · have f4 : (Y != x) = true := by simp [hk2]
      have HV := Lib.hid (Hno.out (.inr hk2))
      clear hk hk2 Hyes Hno
      go_wp2
      refine bodyPost_ret (v := .tuple #[.agg #[.int .i64 0, .int .i64 0, .bool false], .int .i64 5]) (by unfold results; rw [Try.results54]; go_simp) rfl ⟨by rw [HV.out.1, HV.out.2], ?_⟩
      (repeat (first | (with_reducible assumption) | exact Below.refl _ _ | (with_reducible refine kb_drew ?_) | (with_reducible refine kb_drewN ?_) | (with_reducible refine k_drewN ?_) | (with_reducible refine kb_alloc ?_) | (with_reducible refine kc_alloc ?_ (by simp only [World.size_alloc]; omega)) | (with_reducible refine k_drew ?_) | (with_reducible refine k_alloc ?_) | (with_reducible refine Below.setCell ?_ (by first | (simp; done) | (simp only; omega)) _) | (with_reducible refine kb_call (by with_reducible assumption) ?_) | (with_reducible refine kc_call (by with_reducible assumption) ?_ (by simp only [World.size_alloc]; omega)) | (with_reducible refine k_call (by with_reducible assumption) ?_)))
  · have f3 : (E != 0) = true := by simp [hk]
    have HV := Lib.hid (Hno.out (.inl hk))
    clear hk Hyes Hno
    go_wp2
    refine bodyPost_ret (v := .tuple #[.agg #[.int .i64 0, .int .i64 0, .bool false], .int .i64 5]) (by unfold results; rw [Try.results54]; go_simp) rfl ⟨by rw [HV.out.1, HV.out.2], ?_⟩
    (repeat (first | (with_reducible assumption) | exact Below.refl _ _ | (with_reducible refine kb_drew ?_) | (with_reducible refine kb_drewN ?_) | (with_reducible refine k_drewN ?_) | (with_reducible refine kb_alloc ?_) | (with_reducible refine kc_alloc ?_ (by simp only [World.size_alloc]; omega)) | (with_reducible refine k_drew ?_) | (with_reducible refine k_alloc ?_) | (with_reducible refine Below.setCell ?_ (by first | (simp; done) | (simp only; omega)) _) | (with_reducible refine kb_call (by with_reducible assumption) ?_) | (with_reducible refine kc_call (by with_reducible assumption) ?_ (by simp only [World.size_alloc]; omega)) | (with_reducible refine k_call (by with_reducible assumption) ?_)))

set_option maxHeartbeats 4000000 in
theorem rgetSlot_any (x : Int) (w : World) (hx : isW x) :
    Calls Try.prog 57 #[.int .u64 x] w fun e w' => e = .returned (.tuple #[getSlotV x, .int .i64 (getSlotE x)]) ∧ Below w.heap.size w w' := by
  have HX := Lib.hid hx
  clear hx
  go_enter Try.func57, Try.ntmps57
  go_wp2_with (first | (go_at_call 78; refine (rpart_any _ _ _ _ (by omega) (by omega) (by omega) (by omega) HX.out).mono ?_; rintro e w' ⟨rfl, n, rfl⟩) | (go_at_call 59; refine (rmarked_any _ _ HX.out).mono ?_; rintro e w' ⟨rfl, rfl⟩))
  refine (rputSlot_any _ _ _ _).mono ?_
  rintro e w3 ⟨rfl, hb1⟩
  have d0 := k_call hb1 (a := ⟨w.heap.size + 1, 0, none⟩) (v := .int .i64 (partW x 32 32)) (by go_simp)
  have d1 := k_call hb1 (a := ⟨w.heap.size + 1, 1, none⟩) (v := .bool (partW x 16 1 == 1)) (by go_simp)
  have d2 := k_call hb1 (a := ⟨w.heap.size + 1, 2, none⟩) (v := .int .i64 (partW x 0 16)) (by go_simp)
  have hB5 : Below (w.heap.size + 1) (w.alloc (.cells #[.int .i64 0, .bool false, .int .i64 0] 27)) w3 := kc_call hb1 (by (repeat (first | (with_reducible assumption) | exact Below.refl _ _ | (with_reducible refine kb_drew ?_) | (with_reducible refine kb_drewN ?_) | (with_reducible refine k_drewN ?_) | (with_reducible refine kb_alloc ?_) | (with_reducible refine kc_alloc ?_ (by simp only [World.size_alloc]; omega)) | (with_reducible refine k_drew ?_) | (with_reducible refine k_alloc ?_) | (with_reducible refine Below.setCell ?_ (by first | (simp; done) | (simp only; omega)) _) | (with_reducible refine kb_call (by with_reducible assumption) ?_) | (with_reducible refine kc_call (by with_reducible assumption) ?_ (by simp only [World.size_alloc]; omega)) | (with_reducible refine k_call (by with_reducible assumption) ?_)))) (by simp)
  clear hb1
  have r0 := (hB5.cell (p := ⟨w.heap.size, 0, none⟩) (Nat.lt_succ_self _)).trans (show _ = some (.int .i64 0) by go_simp)
  have r1 := (hB5.cell (p := ⟨w.heap.size, 1, none⟩) (Nat.lt_succ_self _)).trans (show _ = some (.bool false) by go_simp)
  have r2 := (hB5.cell (p := ⟨w.heap.size, 2, none⟩) (Nat.lt_succ_self _)).trans (show _ = some (.int .i64 0) by go_simp)
  have f0 := (hB5.frozen (p := ⟨w.heap.size, 0, none⟩) (Nat.lt_succ_self _)).trans (show _ = false by go_simp)
  have f1 := (hB5.frozen (p := ⟨w.heap.size, 1, none⟩) (Nat.lt_succ_self _)).trans (show _ = false by go_simp)
  have f2 := (hB5.frozen (p := ⟨w.heap.size, 2, none⟩) (Nat.lt_succ_self _)).trans (show _ = false by go_simp)
  have hB4 := below_step hB5
  clear hB5
  generalize hE : slotE (partW x 32 32) (partW x 16 1 == 1) (partW x 0 16) = E
  generalize hY : slotW (partW x 32 32) (partW x 16 1 == 1) (partW x 0 16) = Y
  have HE := Lib.hid hE
  have HY := Lib.hid hY
  clear hE hY
  have hno : E ≠ 0 ∨ Y ≠ x → getSlotV x = .agg #[.int .i64 0, .bool false, .int .i64 0] ∧ getSlotE x = 5 := by
    intro h
    have hk : getSlotOk x = false := decide_eq_false (by rw [HE.out, HY.out]; omega)
    unfold getSlotV getSlotE; rw [hk]; exact ⟨rfl, rfl⟩
  have hyes : E = 0 → Y = x → getSlotV x = .agg #[.int .i64 (partW x 32 32), .bool (partW x 16 1 == 1), .int .i64 (partW x 0 16)] ∧ getSlotE x = 0 := by
    intro h1 h2
    have hk : getSlotOk x = true := decide_eq_true (by rw [HE.out, HY.out]; exact ⟨h1, h2⟩)
    unfold getSlotV getSlotE; rw [hk]; exact ⟨rfl, rfl⟩
  have Hno := Lib.hid hno
  have Hyes := Lib.hid hyes
  clear hno hyes HE HY
  by_cases hk : E = 0
  · have f3 : (E != 0) = false := by simp [hk]
    by_cases hk2 : Y = x
    · have f4 : (Y != x) = false := by simp [hk2]
      have HV := Lib.hid (Hyes.out hk hk2)
      clear hk hk2 Hyes Hno
      go_wp2
      refine bodyPost_ret (v := .tuple #[.agg #[.int .i64 (partW x 32 32), .bool (partW x 16 1 == 1), .int .i64 (partW x 0 16)], .int .i64 0]) (by unfold results; rw [Try.results57]; go_simp) rfl ⟨by rw [HV.out.1, HV.out.2], ?_⟩
      (repeat (first | (with_reducible assumption) | exact Below.refl _ _ | (with_reducible refine kb_drew ?_) | (with_reducible refine kb_drewN ?_) | (with_reducible refine k_drewN ?_) | (with_reducible refine kb_alloc ?_) | (with_reducible refine kc_alloc ?_ (by simp only [World.size_alloc]; omega)) | (with_reducible refine k_drew ?_) | (with_reducible refine k_alloc ?_) | (with_reducible refine Below.setCell ?_ (by first | (simp; done) | (simp only; omega)) _) | (with_reducible refine kb_call (by with_reducible assumption) ?_) | (with_reducible refine kc_call (by with_reducible assumption) ?_ (by simp only [World.size_alloc]; omega)) | (with_reducible refine k_call (by with_reducible assumption) ?_)))
    · have f4 : (Y != x) = true := by simp [hk2]
      have HV := Lib.hid (Hno.out (.inr hk2))
      clear hk hk2 Hyes Hno
      go_wp2
      refine bodyPost_ret (v := .tuple #[.agg #[.int .i64 0, .bool false, .int .i64 0], .int .i64 5]) (by unfold results; rw [Try.results57]; go_simp) rfl ⟨by rw [HV.out.1, HV.out.2], ?_⟩
      (repeat (first | (with_reducible assumption) | exact Below.refl _ _ | (with_reducible refine kb_drew ?_) | (with_reducible refine kb_drewN ?_) | (with_reducible refine k_drewN ?_) | (with_reducible refine kb_alloc ?_) | (with_reducible refine kc_alloc ?_ (by simp only [World.size_alloc]; omega)) | (with_reducible refine k_drew ?_) | (with_reducible refine k_alloc ?_) | (with_reducible refine Below.setCell ?_ (by first | (simp; done) | (simp only; omega)) _) | (with_reducible refine kb_call (by with_reducible assumption) ?_) | (with_reducible refine kc_call (by with_reducible assumption) ?_ (by simp only [World.size_alloc]; omega)) | (with_reducible refine k_call (by with_reducible assumption) ?_)))
  · have f3 : (E != 0) = true := by simp [hk]
    have HV := Lib.hid (Hno.out (.inl hk))
    clear hk Hyes Hno
    go_wp2
    refine bodyPost_ret (v := .tuple #[.agg #[.int .i64 0, .bool false, .int .i64 0], .int .i64 5]) (by unfold results; rw [Try.results57]; go_simp) rfl ⟨by rw [HV.out.1, HV.out.2], ?_⟩
    (repeat (first | (with_reducible assumption) | exact Below.refl _ _ | (with_reducible refine kb_drew ?_) | (with_reducible refine kb_drewN ?_) | (with_reducible refine k_drewN ?_) | (with_reducible refine kb_alloc ?_) | (with_reducible refine kc_alloc ?_ (by simp only [World.size_alloc]; omega)) | (with_reducible refine k_drew ?_) | (with_reducible refine k_alloc ?_) | (with_reducible refine Below.setCell ?_ (by first | (simp; done) | (simp only; omega)) _) | (with_reducible refine kb_call (by with_reducible assumption) ?_) | (with_reducible refine kc_call (by with_reducible assumption) ?_ (by simp only [World.size_alloc]; omega)) | (with_reducible refine k_call (by with_reducible assumption) ?_)))

set_option maxHeartbeats 1000000 in
theorem rgetTop_any (x : Int) (w : World) (hx : isW x) :
    Calls Try.prog 56 #[.int .u64 x] w fun e w' => e = .returned (.tuple #[getTopV x, .int .i64 0]) ∧ Below w.heap.size w w' := by
  have HX := Lib.hid hx
  have p1 : 0 ≤ partW x 0 16 ∧ partW x 0 16 < 65536 := partW_bd x 0 16
  have hw1 : IntKind.i64.wrap (partW x 0 16 - 1) = partW x 0 16 - 1 := IntWalk.i64_in _ (by omega)
  obtain ⟨p2, p3⟩ := p1
  clear hx
  go_enter Try.func56, Try.ntmps56
  go_wp2_with (first | (go_at_call 78; refine (rpart_any _ _ _ _ (by omega) (by omega) (by omega) (by omega) HX.out).mono ?_; rintro e w' ⟨rfl, n, rfl⟩))
  refine bodyPost_ret (v := .tuple #[.agg #[.int .i64 (partW x 0 16 - 1), .int .i64 (partW x 16 48)], .int .i64 0]) (by unfold results; rw [Try.results56]; go_simp) rfl ⟨rfl, ?_⟩
  (repeat (first | (with_reducible assumption) | exact Below.refl _ _ | (with_reducible refine kb_drew ?_) | (with_reducible refine kb_drewN ?_) | (with_reducible refine k_drewN ?_) | (with_reducible refine kb_alloc ?_) | (with_reducible refine kc_alloc ?_ (by simp only [World.size_alloc]; omega)) | (with_reducible refine k_drew ?_) | (with_reducible refine k_alloc ?_) | (with_reducible refine Below.setCell ?_ (by first | (simp; done) | (simp only; omega)) _) | (with_reducible refine kb_call (by with_reducible assumption) ?_) | (with_reducible refine kc_call (by with_reducible assumption) ?_ (by simp only [World.size_alloc]; omega)) | (with_reducible refine k_call (by with_reducible assumption) ?_)))

set_option maxHeartbeats 4000000 in
theorem rgetKey_any (x : Int) (w : World) (hx : isW x) :
    Calls Try.prog 58 #[.int .u64 x] w fun e w' => e = .returned (.tuple #[getKeyV x, .int .i64 (getKeyE x)]) ∧ Below w.heap.size w w' := by
  have HX := Lib.hid hx
  clear hx
  go_enter Try.func58, Try.ntmps58
  go_wp2_with (first | (go_at_call 78; refine (rpart_any _ _ _ _ (by omega) (by omega) (by omega) (by omega) HX.out).mono ?_; rintro e w' ⟨rfl, n, rfl⟩) | (go_at_call 59; refine (rmarked_any _ _ HX.out).mono ?_; rintro e w' ⟨rfl, rfl⟩))
  refine (rputKey_any _ _ _ _).mono ?_
  rintro e w3 ⟨rfl, hb1⟩
  have d0 := k_call hb1 (a := ⟨w.heap.size + 1, 0, none⟩) (v := .int .i64 (partW x 56 8)) (by go_simp)
  have d1 := k_call hb1 (a := ⟨w.heap.size + 1, 1, none⟩) (v := .int .i64 (partW x 16 40)) (by go_simp)
  have d2 := k_call hb1 (a := ⟨w.heap.size + 1, 2, none⟩) (v := .int .i64 (partW x 0 16)) (by go_simp)
  have hB5 : Below (w.heap.size + 1) (w.alloc (.cells #[.int .i64 0, .int .i64 0, .int .i64 0] 29)) w3 := kc_call hb1 (by (repeat (first | (with_reducible assumption) | exact Below.refl _ _ | (with_reducible refine kb_drew ?_) | (with_reducible refine kb_drewN ?_) | (with_reducible refine k_drewN ?_) | (with_reducible refine kb_alloc ?_) | (with_reducible refine kc_alloc ?_ (by simp only [World.size_alloc]; omega)) | (with_reducible refine k_drew ?_) | (with_reducible refine k_alloc ?_) | (with_reducible refine Below.setCell ?_ (by first | (simp; done) | (simp only; omega)) _) | (with_reducible refine kb_call (by with_reducible assumption) ?_) | (with_reducible refine kc_call (by with_reducible assumption) ?_ (by simp only [World.size_alloc]; omega)) | (with_reducible refine k_call (by with_reducible assumption) ?_)))) (by simp)
  clear hb1
  have r0 := (hB5.cell (p := ⟨w.heap.size, 0, none⟩) (Nat.lt_succ_self _)).trans (show _ = some (.int .i64 0) by go_simp)
  have r1 := (hB5.cell (p := ⟨w.heap.size, 1, none⟩) (Nat.lt_succ_self _)).trans (show _ = some (.int .i64 0) by go_simp)
  have r2 := (hB5.cell (p := ⟨w.heap.size, 2, none⟩) (Nat.lt_succ_self _)).trans (show _ = some (.int .i64 0) by go_simp)
  have f0 := (hB5.frozen (p := ⟨w.heap.size, 0, none⟩) (Nat.lt_succ_self _)).trans (show _ = false by go_simp)
  have f1 := (hB5.frozen (p := ⟨w.heap.size, 1, none⟩) (Nat.lt_succ_self _)).trans (show _ = false by go_simp)
  have f2 := (hB5.frozen (p := ⟨w.heap.size, 2, none⟩) (Nat.lt_succ_self _)).trans (show _ = false by go_simp)
  have hB4 := below_step hB5
  clear hB5
  have p1 : 0 ≤ partW x 56 8 ∧ partW x 56 8 < 256 := partW_bd x 56 8
  have p2 : 0 ≤ partW x 16 40 ∧ partW x 16 40 < 1099511627776 := partW_bd x 16 40
  have p3 : 0 ≤ partW x 0 16 ∧ partW x 0 16 < 65536 := partW_bd x 0 16
  by_cases hk : 254 < partW x 56 8
  · have hg : getKeyOk x = false := by unfold getKeyOk; exact decide_eq_false (by omega)
    have hV : getKeyV x = .agg #[.int .i64 0, .int .i64 0, .int .i64 0] ∧ getKeyE x = 5 := by unfold getKeyV getKeyE; rw [hg]; exact ⟨rfl, rfl⟩
    have HV := Lib.hid hV
    clear hV hg
    have f9 : (keyE (partW x 56 8) (partW x 16 40) (partW x 0 16) != 0) = true := by unfold keyE; rw [if_pos (by omega)]; rfl
    clear p1 p2 p3 hk
    go_wp2
    refine bodyPost_ret (v := .tuple #[.agg #[.int .i64 0, .int .i64 0, .int .i64 0], .int .i64 5]) (by unfold results; rw [Try.results58]; go_simp) rfl ⟨by rw [HV.out.1, HV.out.2], ?_⟩
    (repeat (first | (with_reducible assumption) | exact Below.refl _ _ | (with_reducible refine kb_drew ?_) | (with_reducible refine kb_drewN ?_) | (with_reducible refine k_drewN ?_) | (with_reducible refine kb_alloc ?_) | (with_reducible refine kc_alloc ?_ (by simp only [World.size_alloc]; omega)) | (with_reducible refine k_drew ?_) | (with_reducible refine k_alloc ?_) | (with_reducible refine Below.setCell ?_ (by first | (simp; done) | (simp only; omega)) _) | (with_reducible refine kb_call (by with_reducible assumption) ?_) | (with_reducible refine kc_call (by with_reducible assumption) ?_ (by simp only [World.size_alloc]; omega)) | (with_reducible refine k_call (by with_reducible assumption) ?_)))
  · have hg : getKeyOk x = true := by unfold getKeyOk; exact decide_eq_true (by omega)
    have hV : getKeyV x = .agg #[.int .i64 (partW x 56 8), .int .i64 (partW x 16 40), .int .i64 (partW x 0 16)] ∧ getKeyE x = 0 := by unfold getKeyV getKeyE; rw [hg]; exact ⟨rfl, rfl⟩
    have HV := Lib.hid hV
    clear hV hg
    have f9 : (keyE (partW x 56 8) (partW x 16 40) (partW x 0 16) != 0) = false := by unfold keyE; rw [if_neg (by omega)]; rfl
    clear p1 p2 p3 hk
    go_wp2
    refine bodyPost_ret (v := .tuple #[.agg #[.int .i64 (partW x 56 8), .int .i64 (partW x 16 40), .int .i64 (partW x 0 16)], .int .i64 0]) (by unfold results; rw [Try.results58]; go_simp) rfl ⟨by rw [HV.out.1, HV.out.2], ?_⟩
    (repeat (first | (with_reducible assumption) | exact Below.refl _ _ | (with_reducible refine kb_drew ?_) | (with_reducible refine kb_drewN ?_) | (with_reducible refine k_drewN ?_) | (with_reducible refine kb_alloc ?_) | (with_reducible refine kc_alloc ?_ (by simp only [World.size_alloc]; omega)) | (with_reducible refine k_drew ?_) | (with_reducible refine k_alloc ?_) | (with_reducible refine Below.setCell ?_ (by first | (simp; done) | (simp only; omega)) _) | (with_reducible refine kb_call (by with_reducible assumption) ?_) | (with_reducible refine kc_call (by with_reducible assumption) ?_ (by simp only [World.size_alloc]; omega)) | (with_reducible refine k_call (by with_reducible assumption) ?_)))

end Go.Proofs.Ytbkaclkbjpdfnaa
