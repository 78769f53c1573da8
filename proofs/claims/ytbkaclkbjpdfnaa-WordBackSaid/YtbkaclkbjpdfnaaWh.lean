/- The contracts of the functions of package word, the fifth part: GetSlot. -/
import Derived.Test.YtbkaclkbjpdfnaaWf
namespace Go.Proofs.Ytbkaclkbjpdfnaa
open Go.RowKit

set_option maxHeartbeats 4000000 in
theorem getSlot_any (x : Int) (w : World) (hx : isW x) :
    Calls Try.prog 48 #[.int .u64 x] w fun e w' => e = .returned (.tuple #[getSlotV x, .int .i64 (getSlotE x)]) ∧ Below w.heap.size w w' := by
  have HX := Lib.hid hx
  clear hx
  go_enter Try.func48, Try.ntmps48
  go_wp2_with fail
  refine (slots_any _).mono ?_
  rintro e w2 ⟨rfl, hb1⟩
  have hB : Below (w.heap.size + 1) (w.alloc (.cells #[.int .i64 0, .bool false, .int .i64 0] 27)) w2 := by rw [show w.heap.size + 1 = (w.alloc (.cells #[.int .i64 0, .bool false, .int .i64 0] 27)).heap.size from by simp]; exact hb1
  have hsB : w.heap.size + 1 ≤ w2.heap.size := by have := hB.size; simpa using this
  clear hb1
  go_upto_region 2 with fail
  go_cut [5] (fun s5 wx => ∃ g : Nat, s5 = .pointer (some ⟨g, 0, none⟩) ∧ w.heap.size < g ∧ wx.cell? ⟨g, 0, none⟩ = some (.int .i64 (partW x 32 32)) ∧ wx.cell? ⟨g, 1, none⟩ = some (.bool (partW x 16 1 == 1)) ∧ wx.cell? ⟨g, 2, none⟩ = some (.int .i64 (partW x 0 16)) ∧
    Below (w.heap.size + 1) (w.alloc (.cells #[.int .i64 0, .bool false, .int .i64 0] 27)) wx)
  case first =>
    go_region_held3 (fun W => W.cell? ⟨w2.heap.size, 0, none⟩ = some (.int .i64 0) ∧ W.cell? ⟨w2.heap.size, 1, none⟩ = some (.int .i64 16) ∧ W.cell? ⟨w2.heap.size, 2, none⟩ = some (.int .i64 16) ∧ W.cell? ⟨w2.heap.size, 3, none⟩ = some (.int .i64 1) ∧ W.cell? ⟨w2.heap.size, 4, none⟩ = some (.int .i64 32) ∧ W.cell? ⟨w2.heap.size, 5, none⟩ = some (.int .i64 32) ∧ Below (w.heap.size + 1) (w.alloc (.cells #[.int .i64 0, .bool false, .int .i64 0] 27)) W) (((try go_split_ands); (repeat' apply And.intro) <;> (first | (with_reducible assumption) | ((repeat (first | (with_reducible assumption) | exact Below.refl _ _ | (with_reducible refine kb_drew ?_) | (with_reducible refine kb_drewN ?_) | (with_reducible refine k_drewN ?_) | (with_reducible refine kb_alloc ?_) | (with_reducible refine kc_alloc ?_ (by simp only [World.size_alloc]; omega)) | (with_reducible refine k_drew ?_) | (with_reducible refine k_alloc ?_) | (with_reducible refine Below.setCell ?_ (by first | (simp; done) | (simp only; omega)) _) | (with_reducible refine kb_call (by with_reducible assumption) ?_) | (with_reducible refine kc_call (by with_reducible assumption) ?_ (by simp only [World.size_alloc]; omega)) | (with_reducible refine k_call (by with_reducible assumption) ?_))); done) | (with_reducible exact k_realloc (by with_reducible assumption) (by simp only; omega)) | (go_simp; done) | (simp [*]; done))))
      (first
        | (go_at_call 77; refine (take_any _ _ _ _ (by omega) (by omega) (by omega) (by omega) HX.out).mono ?_; rintro e w' ⟨rfl, n, rfl⟩))
    all_goals
      have hB3 := (by with_reducible assumption : (_ ∧ _ ∧ _ ∧ _ ∧ _ ∧ _ ∧ Below (w.heap.size + 1) _ _)).2.2.2.2.2.2
      go_wp2_with fail
      go_meet
      exact ⟨_, rfl, by omega, by go_simp, by go_simp, by go_simp, hB3⟩
  case rest =>
    obtain ⟨g, rfl, hg, c0, c1, c2, hB3⟩ := hcut
    go_wp2_with fail
    refine (putSlot_any _ _ _ _).mono ?_
    rintro e w3 ⟨rfl, hb1⟩
    have d0 := k_call hb1 c0
    have d1 := k_call hb1 c1
    have d2 := k_call hb1 c2
    have hB5 : Below (w.heap.size + 1) (w.alloc (.cells #[.int .i64 0, .bool false, .int .i64 0] 27)) w3 := kc_call hb1 hB3 (by simp)
    clear hb1 c0 c1 c2 hB3
    have r0 := (hB5.cell (p := ⟨w.heap.size, 0, none⟩) (Nat.lt_succ_self _)).trans (show _ = some (.int .i64 0) by go_simp)
    have r1 := (hB5.cell (p := ⟨w.heap.size, 1, none⟩) (Nat.lt_succ_self _)).trans (show _ = some (.bool false) by go_simp)
    have r2 := (hB5.cell (p := ⟨w.heap.size, 2, none⟩) (Nat.lt_succ_self _)).trans (show _ = some (.int .i64 0) by go_simp)
    have f0 := (hB5.frozen (p := ⟨w.heap.size, 0, none⟩) (Nat.lt_succ_self _)).trans (show _ = false by go_simp)
    have f1 := (hB5.frozen (p := ⟨w.heap.size, 1, none⟩) (Nat.lt_succ_self _)).trans (show _ = false by go_simp)
    have f2 := (hB5.frozen (p := ⟨w.heap.size, 2, none⟩) (Nat.lt_succ_self _)).trans (show _ = false by go_simp)
    have hB4 := below_step hB5
    clear hB5
    generalize hE : slotE (partW x 32 32) (partW x 16 1 == 1) (partW x 0 16) = E
    generalize hY : slotW (partW x 32 32) (partW x 16 1 == 1) (partW x 0 16) = Y
    have HE := Lib.hid hE
    have HY := Lib.hid hY
    clear hE hY
    have hno : E ≠ 0 ∨ Y ≠ x → getSlotV x = .agg #[.int .i64 0, .bool false, .int .i64 0] ∧ getSlotE x = 5 := by
      intro h
      have hk : getSlotOk x = false := decide_eq_false (by rw [HE.out, HY.out]; omega)
      unfold getSlotV getSlotE; rw [hk]; exact ⟨rfl, rfl⟩
    have hyes : E = 0 → Y = x → getSlotV x = .agg #[.int .i64 (partW x 32 32), .bool (partW x 16 1 == 1), .int .i64 (partW x 0 16)] ∧ getSlotE x = 0 := by
      intro h1 h2
      have hk : getSlotOk x = true := decide_eq_true (by rw [HE.out, HY.out]; exact ⟨h1, h2⟩)
      unfold getSlotV getSlotE; rw [hk]; exact ⟨rfl, rfl⟩
    have Hno := Lib.hid hno
    have Hyes := Lib.hid hyes
    clear hno hyes HE HY
    by_cases hk : E = 0
    · have f3 : (E != 0) = false := by simp [hk]
      by_cases hk2 : Y = x
      · have f4 : (Y != x) = false := by simp [hk2]
        have HV := Lib.hid (Hyes.out hk hk2)
        clear hk hk2 Hyes Hno
        go_wp2
        refine bodyPost_ret (v := .tuple #[.agg #[.int .i64 (partW x 32 32), .bool (partW x 16 1 == 1), .int .i64 (partW x 0 16)], .int .i64 0]) (by unfold results; rw [Try.results48]; go_simp) rfl ⟨by rw [HV.out.1, HV.out.2], ?_⟩
        (repeat (first | (with_reducible assumption) | exact Below.refl _ _ | (with_reducible refine kb_drew ?_) | (with_reducible refine kb_drewN ?_) | (with_reducible refine k_drewN ?_) | (with_reducible refine kb_alloc ?_) | (with_reducible refine kc_alloc ?_ (by simp only [World.size_alloc]; omega)) | (with_reducible refine k_drew ?_) | (with_reducible refine k_alloc ?_) | (with_reducible refine Below.setCell ?_ (by first | (simp; done) | (simp only; omega)) _) | (with_reducible refine kb_call (by with_reducible assumption) ?_) | (with_reducible refine kc_call (by with_reducible assumption) ?_ (by simp only [World.size_alloc]; omega)) | (with_reducible refine k_call (by with_reducible assumption) ?_)))
      · have f4 : (Y != x) = true := by simp [hk2]
        have HV := Lib.hid (Hno.out (.inr hk2))
        clear hk hk2 Hyes Hno
        go_wp2
        refine bodyPost_ret (v := .tuple #[.agg #[.int .i64 0, .bool false, .int .i64 0], .int .i64 5]) (by unfold results; rw [Try.results48]; go_simp) rfl ⟨by rw [HV.out.1, HV.out.2], ?_⟩
        (repeat (first | (with_reducible assumption) | exact Below.refl _ _ | (with_reducible refine kb_drew ?_) | (with_reducible refine kb_drewN ?_) | (with_reducible refine k_drewN ?_) | (with_reducible refine kb_alloc ?_) | (with_reducible refine kc_alloc ?_ (by simp only [World.size_alloc]; omega)) | (with_reducible refine k_drew ?_) | (with_reducible refine k_alloc ?_) | (with_reducible refine Below.setCell ?_ (by first | (simp; done) | (simp only; omega)) _) | (with_reducible refine kb_call (by with_reducible assumption) ?_) | (with_reducible refine kc_call (by with_reducible assumption) ?_ (by simp only [World.size_alloc]; omega)) | (with_reducible refine k_call (by with_reducible assumption) ?_)))
    · have f3 : (E != 0) = true := by simp [hk]
      have HV := Lib.hid (Hno.out (.inl hk))
      clear hk Hyes Hno
      go_wp2
      refine bodyPost_ret (v := .tuple #[.agg #[.int .i64 0, .bool false, .int .i64 0], .int .i64 5]) (by unfold results; rw [Try.results48]; go_simp) rfl ⟨by rw [HV.out.1, HV.out.2], ?_⟩
      (repeat (first | (with_reducible assumption) | exact Below.refl _ _ | (with_reducible refine kb_drew ?_) | (with_reducible refine kb_drewN ?_) | (with_reducible refine k_drewN ?_) | (with_reducible refine kb_alloc ?_) | (with_reducible refine kc_alloc ?_ (by simp only [World.size_alloc]; omega)) | (with_reducible refine k_drew ?_) | (with_reducible refine k_alloc ?_) | (with_reducible refine Below.setCell ?_ (by first | (simp; done) | (simp only; omega)) _) | (with_reducible refine kb_call (by with_reducible assumption) ?_) | (with_reducible refine kc_call (by with_reducible assumption) ?_ (by simp only [World.size_alloc]; omega)) | (with_reducible refine k_call (by with_reducible assumption) ?_)))
end Go.Proofs.Ytbkaclkbjpdfnaa
