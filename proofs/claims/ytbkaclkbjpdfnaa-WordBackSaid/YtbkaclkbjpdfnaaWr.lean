/- The contracts of the functions of the reference of package word: what each returns, as the plain laws have it. -/
import Derived.Test.YtbkaclkbjpdfnaaProg
import Derived.Test.YtbkaclkbjpdfnaaBs
import Derived.Test.YtbkaclkbjpdfnaaWm
namespace Go.Proofs.Ytbkaclkbjpdfnaa
open Go.RowKit

set_option maxHeartbeats 400000 in
theorem rwithin_any (n a b : Int) (w : World) :
    Calls Try.prog 65 #[.int .i64 n, .int .i64 a, .int .i64 b] w fun e w' => e = .returned (.bool (decide (a ≤ n ∧ n ≤ b))) ∧ w = w' := by
  by_cases h1 : a ≤ n
  · go_enter Try.func65, Try.ntmps65
    go_wp2
    go_ret
    exact ⟨ret_bool (by simp [h1]), rfl⟩
  · go_enter Try.func65, Try.ntmps65
    go_wp2
    go_ret
    exact ⟨ret_bool (by simp; omega), rfl⟩

theorem part_fin (x f m : Int) (hm : 0 ≤ m) (hm2 : m < 63) (hx : isW x) : wrap64 (bits BinOp.and IntKind.u64 (x / 2 ^ f.toNat) (IntKind.u64.wrap (IntKind.u64.wrap (2 ^ m.toNat) - 1))) = partW x f m := by
  obtain ⟨k, rfl⟩ := Int.eq_ofNat_of_zero_le hm
  have hp : 0 < 2 ^ k := Nat.two_pow_pos k
  have hq : 2 ^ k ≤ 2 ^ 62 := Nat.pow_le_pow_right (by omega) (by omega)
  have ek : ((k : Int)).toNat = k := by omega
  have e : (2 : Int) ^ k = ((2 ^ k : Nat) : Int) := by simp
  have hx1 := hx.1
  have hx2 := hx.2
  have hpf : (0 : Int) < 2 ^ f.toNat := Int.pow_pos (by omega)
  have hd : 0 ≤ x / 2 ^ f.toNat := Int.ediv_nonneg hx1 (by omega)
  have hd2 : x / 2 ^ f.toNat ≤ x := Int.ediv_le_self _ hx1
  rw [ek]
  have w1 : IntKind.u64.wrap ((2 : Int) ^ k) = 2 ^ k := IntWalk.u64_in _ (by rw [e]; omega)
  have w2 : IntKind.u64.wrap ((2 : Int) ^ k - 1) = 2 ^ k - 1 := IntWalk.u64_in _ (by rw [e]; omega)
  rw [w1, w2, and_mod k _ (by omega) hd (by omega)]
  unfold partW
  rw [ek]
  have hm0 := Int.emod_nonneg (x / 2 ^ f.toNat) (b := (2 : Int) ^ k) (by rw [e]; omega)
  have hm1 := Int.emod_lt_of_pos (x / 2 ^ f.toNat) (b := (2 : Int) ^ k) (by rw [e]; omega)
  exact IntWalk.wrap64_in _ (by rw [e] at hm0 hm1 ⊢; omega)

set_option maxHeartbeats 400000 in
theorem rpart_any (x f m : Int) (w : World) (hf : 0 ≤ f) (hf2 : f < 64) (hm : 0 ≤ m) (hm2 : m < 63) (hx : isW x) :
    Calls Try.prog 78 #[.int .u64 x, .int .i64 f, .int .i64 m] w fun e w' => e = .returned (.int .i64 (partW x f m)) ∧ ∃ n, w' = w.drewN n := by
  have HF := Lib.hid (part_fin x f m hm hm2 hx)
  clear hx
  go_enter Try.func78, Try.ntmps78
  go_wp2
  go_quiet (fail)
  go_wp2
  go_ret
  exact ⟨by rw [← HF.out]; rfl, _, rfl⟩

set_option maxHeartbeats 400000 in
theorem rmarked_any (x : Int) (w : World) (hx : isW x) :
    Calls Try.prog 59 #[.int .u64 x] w fun e w' => e = .returned (.bool (markedW x)) ∧ w = w' := by
  obtain ⟨hx1, hx2⟩ := hx
  have HX := Lib.hid hx2
  clear hx2
  go_enter Try.func59, Try.ntmps59
  go_wp2
  go_ret
  exact ⟨by simp [markedW]; rfl, rfl⟩

set_option maxHeartbeats 400000 in
theorem rmarks_any (x : Int) (b : Bool) (w : World) (hx : isW x) :
    Calls Try.prog 60 #[.int .u64 x, .bool b] w fun e w' => e = .returned (.int .u64 (marksW x b)) ∧ w = w' := by
  have h2 := Lib.hid (and_low x hx)
  have h1 := Lib.hid (or_top (lowW x) (by unfold lowW isW; omega))
  have h3 := Lib.hid (show lowW (lowW x) = lowW x by unfold lowW; omega)
  clear hx
  cases b
  · go_enter Try.func60, Try.ntmps60
    go_wp2
    go_ret
    exact ⟨by simp [h2.out, marksW, topW], rfl⟩
  · go_enter Try.func60, Try.ntmps60
    go_wp2
    go_ret
    exact ⟨by simp [h2.out, h1.out, h3.out, marksW, topW], rfl⟩

set_option maxHeartbeats 400000 in
theorem rputRef_any (i g : Int) (m : Bool) (w : World) :
    Calls Try.prog 15 #[.agg #[.int .i64 i, .int .i64 g, .bool m]] w fun e w' => e = .returned (.tuple #[.int .u64 (refW i g m), .int .i64 (refE i g)]) ∧ Below w.heap.size w w' := by
  by_cases hi : -1 ≤ i ∧ i ≤ 65534
  · have hdi := Lib.hid (decide_eq_true hi)
    by_cases hg : 0 ≤ g ∧ g ≤ 4294967295
    · have hdg := Lib.hid (decide_eq_true hg)
      by_cases h1 : i = -1 ∧ g ≠ 0
      · have f1 : (g != 0) = true := by simp [h1.2]
        have f2 : i < 0 := by omega
        have hE : refE i g = 5 := by unfold refE; rw [if_neg (by omega), if_pos h1]
        have hW : refW i g m = 0 := by unfold refW; rw [hE]; rfl
        rw [hE, hW]
        clear hE hW h1 hi hg
        go_enter Try.func15, Try.ntmps15
        go_wp2_with (first | (go_at_call 65; refine (rwithin_any _ _ _ _).mono ?_; rintro e w1 ⟨rfl, rfl⟩; first | rw [hdi.out] | rw [hdg.out] ))
        go_ret2
        exact ⟨rfl, by (repeat (first | (with_reducible assumption) | exact Below.refl _ _ | (with_reducible refine kb_drew ?_) | (with_reducible refine kb_drewN ?_) | (with_reducible refine k_drewN ?_) | (with_reducible refine kb_alloc ?_) | (with_reducible refine kc_alloc ?_ (by simp only [World.size_alloc]; omega)) | (with_reducible refine k_drew ?_) | (with_reducible refine k_alloc ?_) | (with_reducible refine Below.setCell ?_ (by first | (simp; done) | (simp only; omega)) _) | (with_reducible refine kb_call (by with_reducible assumption) ?_) | (with_reducible refine kc_call (by with_reducible assumption) ?_ (by simp only [World.size_alloc]; omega)) | (with_reducible refine k_call (by with_reducible assumption) ?_)))⟩
      · have hE : refE i g = 0 := by unfold refE; rw [if_neg (by omega), if_neg h1]
        have HL := Lib.hid (refR i g m ⟨hi.1, hi.2, hg.1, hg.2⟩ hE)
        rw [hE]
        obtain ⟨i1, i2⟩ := hi
        obtain ⟨g1, g2⟩ := hg
        clear hE
        by_cases h0 : i < 0
        · have f1 : (g != 0) = false := by simp; omega
          clear h1
          go_enter Try.func15, Try.ntmps15
          go_wp2_with (first | (go_at_call 65; refine (rwithin_any _ _ _ _).mono ?_; rintro e w1 ⟨rfl, rfl⟩; first | rw [hdi.out] | rw [hdg.out]) | (go_at_call 60; refine (rmarks_any _ _ _ HL.out.1).mono ?_; rintro e w1 ⟨rfl, rfl⟩; rw [HL.out.2]))
          go_ret2
          exact ⟨rfl, by (repeat (first | (with_reducible assumption) | exact Below.refl _ _ | (with_reducible refine kb_drew ?_) | (with_reducible refine kb_drewN ?_) | (with_reducible refine k_drewN ?_) | (with_reducible refine kb_alloc ?_) | (with_reducible refine kc_alloc ?_ (by simp only [World.size_alloc]; omega)) | (with_reducible refine k_drew ?_) | (with_reducible refine k_alloc ?_) | (with_reducible refine Below.setCell ?_ (by first | (simp; done) | (simp only; omega)) _) | (with_reducible refine kb_call (by with_reducible assumption) ?_) | (with_reducible refine kc_call (by with_reducible assumption) ?_ (by simp only [World.size_alloc]; omega)) | (with_reducible refine k_call (by with_reducible assumption) ?_)))⟩
        · clear h1
          go_enter Try.func15, Try.ntmps15
          go_wp2_with (first | (go_at_call 65; refine (rwithin_any _ _ _ _).mono ?_; rintro e w1 ⟨rfl, rfl⟩; first | rw [hdi.out] | rw [hdg.out]) | (go_at_call 60; refine (rmarks_any _ _ _ HL.out.1).mono ?_; rintro e w1 ⟨rfl, rfl⟩; rw [HL.out.2]))
          go_ret2
          exact ⟨rfl, by (repeat (first | (with_reducible assumption) | exact Below.refl _ _ | (with_reducible refine kb_drew ?_) | (with_reducible refine kb_drewN ?_) | (with_reducible refine k_drewN ?_) | (with_reducible refine kb_alloc ?_) | (with_reducible refine kc_alloc ?_ (by simp only [World.size_alloc]; omega)) | (with_reducible refine k_drew ?_) | (with_reducible refine k_alloc ?_) | (with_reducible refine Below.setCell ?_ (by first | (simp; done) | (simp only; omega)) _) | (with_reducible refine kb_call (by with_reducible assumption) ?_) | (with_reducible refine kc_call (by with_reducible assumption) ?_ (by simp only [World.size_alloc]; omega)) | (with_reducible refine k_call (by with_reducible assumption) ?_)))⟩
    · have hdg := Lib.hid (decide_eq_false hg)
      have hE : refE i g = 3 := by unfold refE; rw [if_pos (by omega)]
      have hW : refW i g m = 0 := by unfold refW; rw [hE]; rfl
      rw [hE, hW]
      clear hE hW hi hg
      go_enter Try.func15, Try.ntmps15
      go_wp2_with (first | (go_at_call 65; refine (rwithin_any _ _ _ _).mono ?_; rintro e w1 ⟨rfl, rfl⟩; first | rw [hdi.out] | rw [hdg.out] ))
      go_ret2
      exact ⟨rfl, by (repeat (first | (with_reducible assumption) | exact Below.refl _ _ | (with_reducible refine kb_drew ?_) | (with_reducible refine kb_drewN ?_) | (with_reducible refine k_drewN ?_) | (with_reducible refine kb_alloc ?_) | (with_reducible refine kc_alloc ?_ (by simp only [World.size_alloc]; omega)) | (with_reducible refine k_drew ?_) | (with_reducible refine k_alloc ?_) | (with_reducible refine Below.setCell ?_ (by first | (simp; done) | (simp only; omega)) _) | (with_reducible refine kb_call (by with_reducible assumption) ?_) | (with_reducible refine kc_call (by with_reducible assumption) ?_ (by simp only [World.size_alloc]; omega)) | (with_reducible refine k_call (by with_reducible assumption) ?_)))⟩
  · have hdi := Lib.hid (decide_eq_false hi)
    have hE : refE i g = 3 := by unfold refE; rw [if_pos (by omega)]
    have hW : refW i g m = 0 := by unfold refW; rw [hE]; rfl
    rw [hE, hW]
    clear hE hW hi
    go_enter Try.func15, Try.ntmps15
    go_wp2_with (first | (go_at_call 65; refine (rwithin_any _ _ _ _).mono ?_; rintro e w1 ⟨rfl, rfl⟩; first | rw [hdi.out] ))
    go_ret2
    exact ⟨rfl, by (repeat (first | (with_reducible assumption) | exact Below.refl _ _ | (with_reducible refine kb_drew ?_) | (with_reducible refine kb_drewN ?_) | (with_reducible refine k_drewN ?_) | (with_reducible refine kb_alloc ?_) | (with_reducible refine kc_alloc ?_ (by simp only [World.size_alloc]; omega)) | (with_reducible refine k_drew ?_) | (with_reducible refine k_alloc ?_) | (with_reducible refine Below.setCell ?_ (by first | (simp; done) | (simp only; omega)) _) | (with_reducible refine kb_call (by with_reducible assumption) ?_) | (with_reducible refine kc_call (by with_reducible assumption) ?_ (by simp only [World.size_alloc]; omega)) | (with_reducible refine k_call (by with_reducible assumption) ?_)))⟩

set_option maxHeartbeats 400000 in
theorem rputTop_any (i t : Int) (w : World) :
    Calls Try.prog 17 #[.agg #[.int .i64 i, .int .i64 t]] w fun e w' => e = .returned (.tuple #[.int .u64 (topwW i t), .int .i64 (topE i t)]) ∧ Below w.heap.size w w' := by
  by_cases hi : -1 ≤ i ∧ i ≤ 65534
  · have hdi := Lib.hid (decide_eq_true hi)
    by_cases hg : 0 ≤ t ∧ t ≤ 281474976710655
    · have hdg := Lib.hid (decide_eq_true hg)
      have hE : topE i t = 0 := by unfold topE; rw [if_neg (by omega)]
      have HL := Lib.hid (topR i t ⟨hi.1, hi.2, hg.1, hg.2⟩)
      rw [hE]
      obtain ⟨i1, i2⟩ := hi
      obtain ⟨g1, g2⟩ := hg
      clear hE
      go_enter Try.func17, Try.ntmps17
      go_wp2_with (first | (go_at_call 65; refine (rwithin_any _ _ _ _).mono ?_; rintro e w1 ⟨rfl, rfl⟩; first | rw [hdi.out] | rw [hdg.out] ))
      go_ret2
      exact ⟨congrArg (fun x => Ending.returned (.tuple #[.int .u64 x, .int .i64 0])) HL.out, by (repeat (first | (with_reducible assumption) | exact Below.refl _ _ | (with_reducible refine kb_drew ?_) | (with_reducible refine kb_drewN ?_) | (with_reducible refine k_drewN ?_) | (with_reducible refine kb_alloc ?_) | (with_reducible refine kc_alloc ?_ (by simp only [World.size_alloc]; omega)) | (with_reducible refine k_drew ?_) | (with_reducible refine k_alloc ?_) | (with_reducible refine Below.setCell ?_ (by first | (simp; done) | (simp only; omega)) _) | (with_reducible refine kb_call (by with_reducible assumption) ?_) | (with_reducible refine kc_call (by with_reducible assumption) ?_ (by simp only [World.size_alloc]; omega)) | (with_reducible refine k_call (by with_reducible assumption) ?_)))⟩
    · have hdg := Lib.hid (decide_eq_false hg)
      have hE : topE i t = 3 := by unfold topE; rw [if_pos (by omega)]
      have hW : topwW i t = 0 := by unfold topwW; rw [hE]; rfl
      rw [hE, hW]
      clear hE hW hi hg
      go_enter Try.func17, Try.ntmps17
      go_wp2_with (first | (go_at_call 65; refine (rwithin_any _ _ _ _).mono ?_; rintro e w1 ⟨rfl, rfl⟩; first | rw [hdi.out] | rw [hdg.out] ))
      go_ret2
      exact ⟨rfl, by (repeat (first | (with_reducible assumption) | exact Below.refl _ _ | (with_reducible refine kb_drew ?_) | (with_reducible refine kb_drewN ?_) | (with_reducible refine k_drewN ?_) | (with_reducible refine kb_alloc ?_) | (with_reducible refine kc_alloc ?_ (by simp only [World.size_alloc]; omega)) | (with_reducible refine k_drew ?_) | (with_reducible refine k_alloc ?_) | (with_reducible refine Below.setCell ?_ (by first | (simp; done) | (simp only; omega)) _) | (with_reducible refine kb_call (by with_reducible assumption) ?_) | (with_reducible refine kc_call (by with_reducible assumption) ?_ (by simp only [World.size_alloc]; omega)) | (with_reducible refine k_call (by with_reducible assumption) ?_)))⟩
  · have hdi := Lib.hid (decide_eq_false hi)
    have hE : topE i t = 3 := by unfold topE; rw [if_pos (by omega)]
    have hW : topwW i t = 0 := by unfold topwW; rw [hE]; rfl
    rw [hE, hW]
    clear hE hW hi
    go_enter Try.func17, Try.ntmps17
    go_wp2_with (first | (go_at_call 65; refine (rwithin_any _ _ _ _).mono ?_; rintro e w1 ⟨rfl, rfl⟩; first | rw [hdi.out] ))
    go_ret2
    exact ⟨rfl, by (repeat (first | (with_reducible assumption) | exact Below.refl _ _ | (with_reducible refine kb_drew ?_) | (with_reducible refine kb_drewN ?_) | (with_reducible refine k_drewN ?_) | (with_reducible refine kb_alloc ?_) | (with_reducible refine kc_alloc ?_ (by simp only [World.size_alloc]; omega)) | (with_reducible refine k_drew ?_) | (with_reducible refine k_alloc ?_) | (with_reducible refine Below.setCell ?_ (by first | (simp; done) | (simp only; omega)) _) | (with_reducible refine kb_call (by with_reducible assumption) ?_) | (with_reducible refine kc_call (by with_reducible assumption) ?_ (by simp only [World.size_alloc]; omega)) | (with_reducible refine k_call (by with_reducible assumption) ?_)))⟩

set_option maxHeartbeats 400000 in
theorem rputSlot_any (l : Int) (f : Bool) (v : Int) (w : World) :
    Calls Try.prog 19 #[.agg #[.int .i64 l, .bool f, .int .i64 v]] w fun e w' => e = .returned (.tuple #[.int .u64 (slotW l f v), .int .i64 (slotE l f v)]) ∧ Below w.heap.size w w' := by
  by_cases hi : 0 ≤ l ∧ l ≤ 4294967295
  · have hdi := Lib.hid (decide_eq_true hi)
    by_cases hg : 0 ≤ v ∧ v ≤ 65535
    · have hdg := Lib.hid (decide_eq_true hg)
      cases f
      case true =>
        have hE : slotE l true v = 0 := by unfold slotE; rw [if_neg (by omega), if_neg (by simp)]
        have HL := Lib.hid (slotR l v ⟨hi.1, hi.2, hg.1, hg.2⟩)
        rw [hE]
        obtain ⟨i1, i2⟩ := hi
        obtain ⟨g1, g2⟩ := hg
        clear hE
        go_enter Try.func19, Try.ntmps19
        go_wp2_with (first | (go_at_call 65; refine (rwithin_any _ _ _ _).mono ?_; rintro e w1 ⟨rfl, rfl⟩; first | rw [hdi.out] | rw [hdg.out] ))
        go_ret2
        exact ⟨congrArg (fun x => Ending.returned (.tuple #[.int .u64 x, .int .i64 0])) HL.out, by (repeat (first | (with_reducible assumption) | exact Below.refl _ _ | (with_reducible refine kb_drew ?_) | (with_reducible refine kb_drewN ?_) | (with_reducible refine k_drewN ?_) | (with_reducible refine kb_alloc ?_) | (with_reducible refine kc_alloc ?_ (by simp only [World.size_alloc]; omega)) | (with_reducible refine k_drew ?_) | (with_reducible refine k_alloc ?_) | (with_reducible refine Below.setCell ?_ (by first | (simp; done) | (simp only; omega)) _) | (with_reducible refine kb_call (by with_reducible assumption) ?_) | (with_reducible refine kc_call (by with_reducible assumption) ?_ (by simp only [World.size_alloc]; omega)) | (with_reducible refine k_call (by with_reducible assumption) ?_)))⟩
      case false =>
        by_cases h1 : v = 0
        · have f1 : (v != 0) = false := by simp [h1]
          have hE : slotE l false v = 0 := by unfold slotE; rw [if_neg (by omega), if_neg (by simp [h1])]
          have hL : l * 4294967296 = slotW l false v := by unfold slotW; rw [if_pos hE]; simp; omega
          have HL := Lib.hid hL
          rw [hE]
          obtain ⟨i1, i2⟩ := hi
          clear hE h1 hL
          go_enter Try.func19, Try.ntmps19
          go_wp2_with (first | (go_at_call 65; refine (rwithin_any _ _ _ _).mono ?_; rintro e w1 ⟨rfl, rfl⟩; first | rw [hdi.out] | rw [hdg.out] ))
          go_ret2
          exact ⟨congrArg (fun x => Ending.returned (.tuple #[.int .u64 x, .int .i64 0])) HL.out, by (repeat (first | (with_reducible assumption) | exact Below.refl _ _ | (with_reducible refine kb_drew ?_) | (with_reducible refine kb_drewN ?_) | (with_reducible refine k_drewN ?_) | (with_reducible refine kb_alloc ?_) | (with_reducible refine kc_alloc ?_ (by simp only [World.size_alloc]; omega)) | (with_reducible refine k_drew ?_) | (with_reducible refine k_alloc ?_) | (with_reducible refine Below.setCell ?_ (by first | (simp; done) | (simp only; omega)) _) | (with_reducible refine kb_call (by with_reducible assumption) ?_) | (with_reducible refine kc_call (by with_reducible assumption) ?_ (by simp only [World.size_alloc]; omega)) | (with_reducible refine k_call (by with_reducible assumption) ?_)))⟩
        · have f1 : (v != 0) = true := by simp [h1]
          have i1 := hi.1
          have i2 := hi.2
          have hE : slotE l false v = 5 := by unfold slotE; rw [if_neg (by omega), if_pos ⟨rfl, h1⟩]
          have hW : slotW l false v = 0 := by unfold slotW; rw [hE]; rfl
          rw [hE, hW]
          clear hE hW h1 hi hg
          go_enter Try.func19, Try.ntmps19
          go_wp2_with (first | (go_at_call 65; refine (rwithin_any _ _ _ _).mono ?_; rintro e w1 ⟨rfl, rfl⟩; first | rw [hdi.out] | rw [hdg.out] ))
          go_ret2
          exact ⟨rfl, by (repeat (first | (with_reducible assumption) | exact Below.refl _ _ | (with_reducible refine kb_drew ?_) | (with_reducible refine kb_drewN ?_) | (with_reducible refine k_drewN ?_) | (with_reducible refine kb_alloc ?_) | (with_reducible refine kc_alloc ?_ (by simp only [World.size_alloc]; omega)) | (with_reducible refine k_drew ?_) | (with_reducible refine k_alloc ?_) | (with_reducible refine Below.setCell ?_ (by first | (simp; done) | (simp only; omega)) _) | (with_reducible refine kb_call (by with_reducible assumption) ?_) | (with_reducible refine kc_call (by with_reducible assumption) ?_ (by simp only [World.size_alloc]; omega)) | (with_reducible refine k_call (by with_reducible assumption) ?_)))⟩
    · have hdg := Lib.hid (decide_eq_false hg)
      have hE : slotE l f v = 3 := by unfold slotE; rw [if_pos (by omega)]
      have hW : slotW l f v = 0 := by unfold slotW; rw [hE]; rfl
      rw [hE, hW]
      clear hE hW hi hg
      go_enter Try.func19, Try.ntmps19
      go_wp2_with (first | (go_at_call 65; refine (rwithin_any _ _ _ _).mono ?_; rintro e w1 ⟨rfl, rfl⟩; first | rw [hdi.out] | rw [hdg.out] ))
      go_ret2
      exact ⟨rfl, by (repeat (first | (with_reducible assumption) | exact Below.refl _ _ | (with_reducible refine kb_drew ?_) | (with_reducible refine kb_drewN ?_) | (with_reducible refine k_drewN ?_) | (with_reducible refine kb_alloc ?_) | (with_reducible refine kc_alloc ?_ (by simp only [World.size_alloc]; omega)) | (with_reducible refine k_drew ?_) | (with_reducible refine k_alloc ?_) | (with_reducible refine Below.setCell ?_ (by first | (simp; done) | (simp only; omega)) _) | (with_reducible refine kb_call (by with_reducible assumption) ?_) | (with_reducible refine kc_call (by with_reducible assumption) ?_ (by simp only [World.size_alloc]; omega)) | (with_reducible refine k_call (by with_reducible assumption) ?_)))⟩
  · have hdi := Lib.hid (decide_eq_false hi)
    have hE : slotE l f v = 3 := by unfold slotE; rw [if_pos (by omega)]
    have hW : slotW l f v = 0 := by unfold slotW; rw [hE]; rfl
    rw [hE, hW]
    clear hE hW hi
    go_enter Try.func19, Try.ntmps19
    go_wp2_with (first | (go_at_call 65; refine (rwithin_any _ _ _ _).mono ?_; rintro e w1 ⟨rfl, rfl⟩; first | rw [hdi.out] ))
    go_ret2
    exact ⟨rfl, by (repeat (first | (with_reducible assumption) | exact Below.refl _ _ | (with_reducible refine kb_drew ?_) | (with_reducible refine kb_drewN ?_) | (with_reducible refine k_drewN ?_) | (with_reducible refine kb_alloc ?_) | (with_reducible refine kc_alloc ?_ (by simp only [World.size_alloc]; omega)) | (with_reducible refine k_drew ?_) | (with_reducible refine k_alloc ?_) | (with_reducible refine Below.setCell ?_ (by first | (simp; done) | (simp only; omega)) _) | (with_reducible refine kb_call (by with_reducible assumption) ?_) | (with_reducible refine kc_call (by with_reducible assumption) ?_ (by simp only [World.size_alloc]; omega)) | (with_reducible refine k_call (by with_reducible assumption) ?_)))⟩

set_option maxHeartbeats 400000 in
theorem rputKey_any (p s q : Int) (w : World) :
    Calls Try.prog 21 #[.agg #[.int .i64 p, .int .i64 s, .int .i64 q]] w fun e w' => e = .returned (.tuple #[.int .u64 (keyW p s q), .int .i64 (keyE p s q)]) ∧ Below w.heap.size w w' := by
  by_cases hi : 0 ≤ p ∧ p ≤ 254
  · have hdi := Lib.hid (decide_eq_true hi)
    by_cases hg : 0 ≤ s ∧ s ≤ 1099511627775
    · have hdg := Lib.hid (decide_eq_true hg)
      by_cases hh : 0 ≤ q ∧ q ≤ 65535
      · have hdh := Lib.hid (decide_eq_true hh)
        have hE : keyE p s q = 0 := by unfold keyE; rw [if_neg (by omega)]
        have HL := Lib.hid (keyR p s q ⟨hh.1, hh.2, hg.1, hg.2, hi.1, hi.2⟩)
        rw [hE]
        obtain ⟨i1, i2⟩ := hi
        obtain ⟨g1, g2⟩ := hg
        obtain ⟨j1, j2⟩ := hh
        clear hE
        go_enter Try.func21, Try.ntmps21
        go_wp2_with (first | (go_at_call 65; refine (rwithin_any _ _ _ _).mono ?_; rintro e w1 ⟨rfl, rfl⟩; first | rw [hdi.out] | rw [hdg.out] | rw [hdh.out] ))
        go_ret2
        exact ⟨congrArg (fun x => Ending.returned (.tuple #[.int .u64 x, .int .i64 0])) HL.out, by (repeat (first | (with_reducible assumption) | exact Below.refl _ _ | (with_reducible refine kb_drew ?_) | (with_reducible refine kb_drewN ?_) | (with_reducible refine k_drewN ?_) | (with_reducible refine kb_alloc ?_) | (with_reducible refine kc_alloc ?_ (by simp only [World.size_alloc]; omega)) | (with_reducible refine k_drew ?_) | (with_reducible refine k_alloc ?_) | (with_reducible refine Below.setCell ?_ (by first | (simp; done) | (simp only; omega)) _) | (with_reducible refine kb_call (by with_reducible assumption) ?_) | (with_reducible refine kc_call (by with_reducible assumption) ?_ (by simp only [World.size_alloc]; omega)) | (with_reducible refine k_call (by with_reducible assumption) ?_)))⟩
      · have hdh := Lib.hid (decide_eq_false hh)
        have hE : keyE p s q = 3 := by unfold keyE; rw [if_pos (by omega)]
        have hW : keyW p s q = 0 := by unfold keyW; rw [hE]; rfl
        rw [hE, hW]
        clear hE hW hi hg hh
        go_enter Try.func21, Try.ntmps21
        go_wp2_with (first | (go_at_call 65; refine (rwithin_any _ _ _ _).mono ?_; rintro e w1 ⟨rfl, rfl⟩; first | rw [hdi.out] | rw [hdg.out] | rw [hdh.out] ))
        go_ret2
        exact ⟨rfl, by (repeat (first | (with_reducible assumption) | exact Below.refl _ _ | (with_reducible refine kb_drew ?_) | (with_reducible refine kb_drewN ?_) | (with_reducible refine k_drewN ?_) | (with_reducible refine kb_alloc ?_) | (with_reducible refine kc_alloc ?_ (by simp only [World.size_alloc]; omega)) | (with_reducible refine k_drew ?_) | (with_reducible refine k_alloc ?_) | (with_reducible refine Below.setCell ?_ (by first | (simp; done) | (simp only; omega)) _) | (with_reducible refine kb_call (by with_reducible assumption) ?_) | (with_reducible refine kc_call (by with_reducible assumption) ?_ (by simp only [World.size_alloc]; omega)) | (with_reducible refine k_call (by with_reducible assumption) ?_)))⟩
    · have hdg := Lib.hid (decide_eq_false hg)
      have hE : keyE p s q = 3 := by unfold keyE; rw [if_pos (by omega)]
      have hW : keyW p s q = 0 := by unfold keyW; rw [hE]; rfl
      rw [hE, hW]
      clear hE hW hi hg
      go_enter Try.func21, Try.ntmps21
      go_wp2_with (first | (go_at_call 65; refine (rwithin_any _ _ _ _).mono ?_; rintro e w1 ⟨rfl, rfl⟩; first | rw [hdi.out] | rw [hdg.out] ))
      go_ret2
      exact ⟨rfl, by (repeat (first | (with_reducible assumption) | exact Below.refl _ _ | (with_reducible refine kb_drew ?_) | (with_reducible refine kb_drewN ?_) | (with_reducible refine k_drewN ?_) | (with_reducible refine kb_alloc ?_) | (with_reducible refine kc_alloc ?_ (by simp only [World.size_alloc]; omega)) | (with_reducible refine k_drew ?_) | (with_reducible refine k_alloc ?_) | (with_reducible refine Below.setCell ?_ (by first | (simp; done) | (simp only; omega)) _) | (with_reducible refine kb_call (by with_reducible assumption) ?_) | (with_reducible refine kc_call (by with_reducible assumption) ?_ (by simp only [World.size_alloc]; omega)) | (with_reducible refine k_call (by with_reducible assumption) ?_)))⟩
  · have hdi := Lib.hid (decide_eq_false hi)
    have hE : keyE p s q = 3 := by unfold keyE; rw [if_pos (by omega)]
    have hW : keyW p s q = 0 := by unfold keyW; rw [hE]; rfl
    rw [hE, hW]
    clear hE hW hi
    go_enter Try.func21, Try.ntmps21
    go_wp2_with (first | (go_at_call 65; refine (rwithin_any _ _ _ _).mono ?_; rintro e w1 ⟨rfl, rfl⟩; first | rw [hdi.out] ))
    go_ret2
    exact ⟨rfl, by (repeat (first | (with_reducible assumption) | exact Below.refl _ _ | (with_reducible refine kb_drew ?_) | (with_reducible refine kb_drewN ?_) | (with_reducible refine k_drewN ?_) | (with_reducible refine kb_alloc ?_) | (with_reducible refine kc_alloc ?_ (by simp only [World.size_alloc]; omega)) | (with_reducible refine k_drew ?_) | (with_reducible refine k_alloc ?_) | (with_reducible refine Below.setCell ?_ (by first | (simp; done) | (simp only; omega)) _) | (with_reducible refine kb_call (by with_reducible assumption) ?_) | (with_reducible refine kc_call (by with_reducible assumption) ?_ (by simp only [World.size_alloc]; omega)) | (with_reducible refine k_call (by with_reducible assumption) ?_)))⟩

end Go.Proofs.Ytbkaclkbjpdfnaa
