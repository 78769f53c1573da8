/- The contracts of the functions of package word, the third part: Get. -/
import Derived.Test.YtbkaclkbjpdfnaaWd
namespace Go.Proofs.Ytbkaclkbjpdfnaa
open Go.RowKit


set_option maxHeartbeats 4000000 in
theorem getKey_any (x : Int) (w : World) (hx : isW x) :
    Calls Try.prog 49 #[.int .u64 x] w fun e w' => e = .returned (.tuple #[getKeyV x, .int .i64 (getKeyE x)]) ∧ Below w.heap.size w w' := by
  have HX := Lib.hid hx
  clear hx
  go_enter Try.func49, Try.ntmps49
  go_wp2_with fail
  refine (keys_any _).mono ?_
  rintro e w2 ⟨rfl, hb1⟩
  have hB : Below (w.heap.size + 1) (w.alloc (.cells #[.int .i64 0, .int .i64 0, .int .i64 0] 29)) w2 := by rw [show w.heap.size + 1 = (w.alloc (.cells #[.int .i64 0, .int .i64 0, .int .i64 0] 29)).heap.size from by simp]; exact hb1
  have hsB : w.heap.size + 1 ≤ w2.heap.size := by have := hB.size; simpa using this
  clear hb1
  go_upto_region 2 with fail
  go_cut [5] (fun s5 wx => ∃ g : Nat, s5 = .pointer (some ⟨g, 0, none⟩) ∧ w.heap.size < g ∧ wx.cell? ⟨g, 0, none⟩ = some (.int .i64 (partW x 56 8)) ∧ wx.cell? ⟨g, 1, none⟩ = some (.int .i64 (partW x 16 40)) ∧ wx.cell? ⟨g, 2, none⟩ = some (.int .i64 (partW x 0 16)) ∧
    Below (w.heap.size + 1) (w.alloc (.cells #[.int .i64 0, .int .i64 0, .int .i64 0] 29)) wx)
  case first =>
    go_region_held3 (fun W => W.cell? ⟨w2.heap.size, 0, none⟩ = some (.int .i64 0) ∧ W.cell? ⟨w2.heap.size, 1, none⟩ = some (.int .i64 16) ∧ W.cell? ⟨w2.heap.size, 2, none⟩ = some (.int .i64 16) ∧ W.cell? ⟨w2.heap.size, 3, none⟩ = some (.int .i64 40) ∧ W.cell? ⟨w2.heap.size, 4, none⟩ = some (.int .i64 56) ∧ W.cell? ⟨w2.heap.size, 5, none⟩ = some (.int .i64 8) ∧ Below (w.heap.size + 1) (w.alloc (.cells #[.int .i64 0, .int .i64 0, .int .i64 0] 29)) W) (((try go_split_ands); (repeat' apply And.intro) <;> (first | (with_reducible assumption) | ((repeat (first | (with_reducible assumption) | exact Below.refl _ _ | (with_reducible refine kb_drew ?_) | (with_reducible refine kb_drewN ?_) | (with_reducible refine k_drewN ?_) | (with_reducible refine kb_alloc ?_) | (with_reducible refine kc_alloc ?_ (by simp only [World.size_alloc]; omega)) | (with_reducible refine k_drew ?_) | (with_reducible refine k_alloc ?_) | (with_reducible refine Below.setCell ?_ (by first | (simp; done) | (simp only; omega)) _) | (with_reducible refine kb_call (by with_reducible assumption) ?_) | (with_reducible refine kc_call (by with_reducible assumption) ?_ (by simp only [World.size_alloc]; omega)) | (with_reducible refine k_call (by with_reducible assumption) ?_))); done) | (with_reducible exact k_realloc (by with_reducible assumption) (by simp only; omega)) | (go_simp; done) | (simp [*]; done))))
      (first
        | (go_at_call 77; refine (take_any _ _ _ _ (by omega) (by omega) (by omega) (by omega) HX.out).mono ?_; rintro e w' ⟨rfl, n, rfl⟩))
    all_goals
      have hB3 := (by with_reducible assumption : (_ ∧ _ ∧ _ ∧ _ ∧ _ ∧ _ ∧ Below (w.heap.size + 1) _ _)).2.2.2.2.2.2
      go_wp2_with fail
      go_meet
      exact ⟨_, rfl, by omega, by go_simp, by go_simp, by go_simp, hB3⟩
  case rest =>
    obtain ⟨g, rfl, hg, c0, c1, c2, hB3⟩ := hcut
    have r0 := (hB3.cell (p := ⟨w.heap.size, 0, none⟩) (Nat.lt_succ_self _)).trans (show _ = some (.int .i64 0) by go_simp)
    have r1 := (hB3.cell (p := ⟨w.heap.size, 1, none⟩) (Nat.lt_succ_self _)).trans (show _ = some (.int .i64 0) by go_simp)
    have r2 := (hB3.cell (p := ⟨w.heap.size, 2, none⟩) (Nat.lt_succ_self _)).trans (show _ = some (.int .i64 0) by go_simp)
    have f0 := (hB3.frozen (p := ⟨w.heap.size, 0, none⟩) (Nat.lt_succ_self _)).trans (show _ = false by go_simp)
    have f1 := (hB3.frozen (p := ⟨w.heap.size, 1, none⟩) (Nat.lt_succ_self _)).trans (show _ = false by go_simp)
    have f2 := (hB3.frozen (p := ⟨w.heap.size, 2, none⟩) (Nat.lt_succ_self _)).trans (show _ = false by go_simp)
    have hB4 := below_step hB3
    clear hB3
    by_cases hk : 254 < partW x 56 8
    · have hg : getKeyOk x = false := by unfold getKeyOk; exact decide_eq_false (by omega)
      have hV : getKeyV x = .agg #[.int .i64 0, .int .i64 0, .int .i64 0] ∧ getKeyE x = 5 := by unfold getKeyV getKeyE; rw [hg]; exact ⟨rfl, rfl⟩
      have HV := Lib.hid hV
      clear hV hg
      go_wp2
      refine bodyPost_ret (v := .tuple #[.agg #[.int .i64 0, .int .i64 0, .int .i64 0], .int .i64 5]) (by unfold results; rw [Try.results49]; go_simp) rfl ⟨by rw [HV.out.1, HV.out.2], ?_⟩
      (repeat (first | (with_reducible assumption) | exact Below.refl _ _ | (with_reducible refine kb_drew ?_) | (with_reducible refine kb_drewN ?_) | (with_reducible refine k_drewN ?_) | (with_reducible refine kb_alloc ?_) | (with_reducible refine kc_alloc ?_ (by simp only [World.size_alloc]; omega)) | (with_reducible refine k_drew ?_) | (with_reducible refine k_alloc ?_) | (with_reducible refine Below.setCell ?_ (by first | (simp; done) | (simp only; omega)) _) | (with_reducible refine kb_call (by with_reducible assumption) ?_) | (with_reducible refine kc_call (by with_reducible assumption) ?_ (by simp only [World.size_alloc]; omega)) | (with_reducible refine k_call (by with_reducible assumption) ?_)))
    · have hg : getKeyOk x = true := by unfold getKeyOk; exact decide_eq_true (by omega)
      have hV : getKeyV x = .agg #[.int .i64 (partW x 56 8), .int .i64 (partW x 16 40), .int .i64 (partW x 0 16)] ∧ getKeyE x = 0 := by unfold getKeyV getKeyE; rw [hg]; exact ⟨rfl, rfl⟩
      have HV := Lib.hid hV
      clear hV hg
      go_wp2
      refine bodyPost_ret (v := .tuple #[.agg #[.int .i64 (partW x 56 8), .int .i64 (partW x 16 40), .int .i64 (partW x 0 16)], .int .i64 0]) (by unfold results; rw [Try.results49]; go_simp) rfl ⟨by rw [HV.out.1, HV.out.2], ?_⟩
      (repeat (first | (with_reducible assumption) | exact Below.refl _ _ | (with_reducible refine kb_drew ?_) | (with_reducible refine kb_drewN ?_) | (with_reducible refine k_drewN ?_) | (with_reducible refine kb_alloc ?_) | (with_reducible refine kc_alloc ?_ (by simp only [World.size_alloc]; omega)) | (with_reducible refine k_drew ?_) | (with_reducible refine k_alloc ?_) | (with_reducible refine Below.setCell ?_ (by first | (simp; done) | (simp only; omega)) _) | (with_reducible refine kb_call (by with_reducible assumption) ?_) | (with_reducible refine kc_call (by with_reducible assumption) ?_ (by simp only [World.size_alloc]; omega)) | (with_reducible refine k_call (by with_reducible assumption) ?_)))

set_option maxHeartbeats 1000000 in
theorem getTop_any (x : Int) (w : World) (hx : isW x) :
    Calls Try.prog 55 #[.int .u64 x] w fun e w' => e = .returned (.tuple #[getTopV x, .int .i64 0]) ∧ Below w.heap.size w w' := by
  have HX := Lib.hid hx
  have p1 : 0 ≤ partW x 0 16 ∧ partW x 0 16 < 65536 := partW_bd x 0 16
  have hw1 : IntKind.i64.wrap (partW x 0 16 - 1) = partW x 0 16 - 1 := IntWalk.i64_in _ (by omega)
  clear hx p1
  go_enter Try.func55, Try.ntmps55
  go_wp2_with fail
  refine (tops_any _).mono ?_
  rintro e w2 ⟨rfl, hb1⟩
  have hB : Below (w.heap.size + 1) (w.alloc (.cells #[.int .i64 0, .int .i64 0] 25)) w2 := by rw [show w.heap.size + 1 = (w.alloc (.cells #[.int .i64 0, .int .i64 0] 25)).heap.size from by simp]; exact hb1
  have hsB : w.heap.size + 1 ≤ w2.heap.size := by have := hB.size; simpa using this
  clear hb1
  have r0 := (hB.cell (p := ⟨w.heap.size, 0, none⟩) (Nat.lt_succ_self _)).trans (show _ = some (.int .i64 0) by go_simp)
  have r1 := (hB.cell (p := ⟨w.heap.size, 1, none⟩) (Nat.lt_succ_self _)).trans (show _ = some (.int .i64 0) by go_simp)
  have f0 := (hB.frozen (p := ⟨w.heap.size, 0, none⟩) (Nat.lt_succ_self _)).trans (show _ = false by go_simp)
  have f1 := (hB.frozen (p := ⟨w.heap.size, 1, none⟩) (Nat.lt_succ_self _)).trans (show _ = false by go_simp)
  have hB4 := below_step hB
  clear hB
  have hlt : w.heap.size < w2.heap.size := hsB
  have hlt1 : w.heap.size < w2.heap.size + 1 := by omega
  have hlt2 : w.heap.size < w2.heap.size + 1 + 1 := by omega
  have hlt3 : w.heap.size < w2.heap.size + 1 + 1 + 1 := by omega
  go_upto_region 2 with fail
  go_cut [3] (fun s3 wx => s3 = .int .i64 0 ∧ wx.cell? ⟨w.heap.size, 0, none⟩ = some (.int .i64 (partW x 0 16 - 1)) ∧ wx.cell? ⟨w.heap.size, 1, none⟩ = some (.int .i64 (partW x 16 48)) ∧ Below w.heap.size w wx)
  case first =>
    go_region_held3 (fun W => W.cell? ⟨w2.heap.size, 0, none⟩ = some (.int .i64 0) ∧ W.cell? ⟨w2.heap.size, 1, none⟩ = some (.int .i64 16) ∧ W.cell? ⟨w2.heap.size, 2, none⟩ = some (.int .i64 16) ∧ W.cell? ⟨w2.heap.size, 3, none⟩ = some (.int .i64 48) ∧ Below w.heap.size w W) (((try go_split_ands); (repeat' apply And.intro) <;> (first | (with_reducible assumption) | ((repeat (first | (with_reducible assumption) | exact Below.refl _ _ | (with_reducible refine kb_drew ?_) | (with_reducible refine kb_drewN ?_) | (with_reducible refine k_drewN ?_) | (with_reducible refine kb_alloc ?_) | (with_reducible refine kc_alloc ?_ (by simp only [World.size_alloc]; omega)) | (with_reducible refine k_drew ?_) | (with_reducible refine k_alloc ?_) | (with_reducible refine Below.setCell ?_ (by first | (simp; done) | (simp only; omega)) _) | (with_reducible refine kb_call (by with_reducible assumption) ?_) | (with_reducible refine kc_call (by with_reducible assumption) ?_ (by simp only [World.size_alloc]; omega)) | (with_reducible refine k_call (by with_reducible assumption) ?_))); done) | (with_reducible exact k_realloc (by with_reducible assumption) (by simp only; omega)) | (go_simp; done) | (simp [*]; done))))
      (first
        | (go_at_call 77; refine (take_any _ _ _ _ (by omega) (by omega) (by omega) (by omega) HX.out).mono ?_; rintro e w' ⟨rfl, n, rfl⟩))
    have hB3 := (by with_reducible assumption : (_ ∧ _ ∧ _ ∧ _ ∧ Below w.heap.size _ _)).2.2.2.2
    go_wp2_with fail
    go_meet
    exact ⟨rfl, by go_simp, by go_simp, hB3⟩
  case rest =>
    obtain ⟨rfl, c0, c1, hB3⟩ := hcut
    go_wp2
    refine bodyPost_ret (v := .tuple #[.agg #[.int .i64 (partW x 0 16 - 1), .int .i64 (partW x 16 48)], .int .i64 0]) (by unfold results; rw [Try.results55]; go_simp) rfl ⟨rfl, hB3⟩
end Go.Proofs.Ytbkaclkbjpdfnaa
