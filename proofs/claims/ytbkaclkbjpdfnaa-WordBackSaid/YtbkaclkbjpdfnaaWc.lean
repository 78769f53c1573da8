/- The contracts of the functions of package word, and of its reference: what each returns, as the plain laws have it. -/
import Derived.Test.YtbkaclkbjpdfnaaProg
import Derived.Test.YtbkaclkbjpdfnaaBs
import Derived.Test.YtbkaclkbjpdfnaaWm
import Derived.WalkKit
import Derived.WalkSpells
import Derived.WalkLawsBesides
import Derived.Handy
import Derived.Lib.Hide
import Derived.BigQuiet
import Derived.Deep.QuietTactic
import Derived.Deep.RegionHeld3
namespace Go.Proofs.Ytbkaclkbjpdfnaa
open Go.RowKit


set_option maxHeartbeats 400000 in
theorem with_any (x f m n : Int) (w : World) (hf : 0 ≤ f) (hf2 : f < 64) :
    Calls Try.prog 79 #[.int .u64 x, .agg #[.int .i64 f, .int .i64 m], .int .i64 n] w fun e w' =>
      e = .returned (.int .u64 (bits .or .u64 x (IntKind.u64.wrap (IntKind.u64.wrap n * 2 ^ f.toNat)))) ∧ Below w.heap.size w w' := by
  go_enter Try.func79, Try.ntmps79
  go_wp2
  go_ret
  exact ⟨rfl, (Below.refl _ _).alloc (Nat.le_refl _) _⟩

set_option maxHeartbeats 400000 in
theorem take_any (x f m : Int) (w : World) (hf : 0 ≤ f) (hf2 : f < 64) (hm : 0 ≤ m) (hm2 : m < 63) (hx : isW x) :
    Calls Try.prog 77 #[.int .u64 x, .agg #[.int .i64 f, .int .i64 m]] w fun e w' => e = .returned (.int .i64 (partW x f m)) ∧ ∃ n, w' = (w.alloc (.cells #[.int .i64 f, .int .i64 m] 94)).drewN n := by
  have hfin : wrap64 (bits BinOp.and IntKind.u64 (x / 2 ^ f.toNat) (IntKind.u64.wrap (IntKind.u64.wrap (2 ^ m.toNat) - 1))) = partW x f m := by
    obtain ⟨k, rfl⟩ := Int.eq_ofNat_of_zero_le hm
    have hp : 0 < 2 ^ k := Nat.two_pow_pos k
    have hq : 2 ^ k ≤ 2 ^ 62 := Nat.pow_le_pow_right (by omega) (by omega)
    have ek : ((k : Int)).toNat = k := by omega
    have e : (2 : Int) ^ k = ((2 ^ k : Nat) : Int) := by simp
    have hx1 := hx.1
    have hx2 := hx.2
    have hpf : (0 : Int) < 2 ^ f.toNat := Int.pow_pos (by omega)
    have hd : 0 ≤ x / 2 ^ f.toNat := Int.ediv_nonneg hx1 (by omega)
    have hd2 : x / 2 ^ f.toNat ≤ x := Int.ediv_le_self _ hx1
    rw [ek]
    have w1 : IntKind.u64.wrap ((2 : Int) ^ k) = 2 ^ k := IntWalk.u64_in _ (by rw [e]; omega)
    have w2 : IntKind.u64.wrap ((2 : Int) ^ k - 1) = 2 ^ k - 1 := IntWalk.u64_in _ (by rw [e]; omega)
    rw [w1, w2, and_mod k _ (by omega) hd (by omega)]
    unfold partW
    rw [ek]
    have hm0 := Int.emod_nonneg (x / 2 ^ f.toNat) (b := (2 : Int) ^ k) (by rw [e]; omega)
    have hm1 := Int.emod_lt_of_pos (x / 2 ^ f.toNat) (b := (2 : Int) ^ k) (by rw [e]; omega)
    exact IntWalk.wrap64_in _ (by rw [e] at hm0 hm1 ⊢; omega)
  have HF := Lib.hid hfin
  clear hfin
  go_enter Try.func77, Try.ntmps77
  go_wp2
  go_quiet (fail)
  go_wp2
  go_ret
  exact ⟨by rw [← HF.out]; rfl, _, rfl⟩

set_option maxHeartbeats 400000 in
theorem marks_any (x : Int) (b : Bool) (w : World) (hx : isW x) :
    Calls Try.prog 52 #[.int .u64 x, .bool b] w fun e w' => e = .returned (.int .u64 (marksW x b)) ∧ Below w.heap.size w w' := by
  have h1 := Lib.hid (or_top x hx)
  have h2 := Lib.hid (andNot_top x hx)
  clear hx
  cases b
  · go_enter Try.func52, Try.ntmps52
    go_wp2
    go_ret
    exact ⟨by simp [h2.out, marksW, topW], Below.refl _ _⟩
  · go_enter Try.func52, Try.ntmps52
    go_wp2
    go_ret
    exact ⟨by simp [h1.out, marksW, topW], Below.refl _ _⟩

set_option maxHeartbeats 400000 in
theorem marked_any (x : Int) (w : World) (hx : isW x) :
    Calls Try.prog 53 #[.int .u64 x] w fun e w' => e = .returned (.bool (markedW x)) ∧ w = w' := by
  obtain ⟨hx1, hx2⟩ := hx
  have HX := Lib.hid hx2
  clear hx2
  go_enter Try.func53, Try.ntmps53
  go_wp2
  go_ret
  exact ⟨by simp [markedW]; rfl, rfl⟩

set_option maxHeartbeats 400000 in
theorem lay_any (n tb nb : Nat) (fr mn nm : Nat → Int) (w : World) (hn : n ≤ 10) (htb : tb < w.heap.size) (hnb : nb < w.heap.size) (hf : ∀ i, i < n → 0 ≤ fr i ∧ fr i < 64)
    (hc0 : ∀ i, i < n → w.cell? ⟨tb, i*2, none⟩ = some (.int .i64 (fr i))) (hc1 : ∀ i, i < n → w.cell? ⟨tb, i*2+1, none⟩ = some (.int .i64 (mn i))) (hc2 : ∀ i, i < n → w.cell? ⟨nb, i, none⟩ = some (.int .i64 (nm i))) :
    Calls Try.prog 64 #[.slice (some ⟨tb, 0, none⟩) n n, .slice (some ⟨nb, 0, none⟩) n n] w fun e w' => e = .returned (.int .u64 (layF fr nm n)) ∧ Below w.heap.size w w' := by
  have H0 := Lib.hid hc0
  have H1 := Lib.hid hc1
  have H2 := Lib.hid hc2
  have HF := Lib.hid hf
  clear hc0 hc1 hc2 hf
  go_enter Try.func64, Try.ntmps64
  go_wp2
  go_loopw [5, 10] (fun x i wr => ∃ k : Nat, k ≤ n ∧ i = .int .i64 k ∧ x = .int .u64 (layF fr nm k) ∧ Below w.heap.size w wr) (fun _ i _ => n - (intOf i).toNat)
  case atStart => exact ⟨0, by omega, rfl, rfl, Below.refl _ _⟩
  case round =>
    obtain ⟨k, hk, rfl, rfl, hB⟩ := hrel
    by_cases hlt : k < n
    · have h0 := (hB.cell (p := ⟨tb, k*2, none⟩) htb).trans (H0.out k hlt)
      have h1 := (hB.cell (p := ⟨tb, k*2+1, none⟩) htb).trans (H1.out k hlt)
      have h2 := (hB.cell (p := ⟨nb, k, none⟩) hnb).trans (H2.out k hlt)
      have hnb' : nb < wr.heap.size := Nat.lt_of_lt_of_le hnb hB.size
      obtain ⟨f0, f1⟩ := HF.out k hlt
      go_wp2
      go_region_held3 (fun W => W.cell? ⟨nb, k, none⟩ = some (.int .i64 (nm k)) ∧ W.cell? ⟨wr.heap.size, 0, none⟩ = some (.int .i64 (fr k)) ∧ W.cell? ⟨wr.heap.size, 1, none⟩ = some (.int .i64 (mn k)) ∧ Below w.heap.size w W) (((try go_split_ands); (repeat' apply And.intro) <;> (first | (with_reducible assumption) | ((repeat (first | (with_reducible assumption) | exact Below.refl _ _ | (with_reducible refine kb_drew ?_) | (with_reducible refine kb_drewN ?_) | (with_reducible refine k_drewN ?_) | (with_reducible refine kb_alloc ?_) | (with_reducible refine kc_alloc ?_ (by simp only [World.size_alloc]; omega)) | (with_reducible refine k_drew ?_) | (with_reducible refine k_alloc ?_) | (with_reducible refine Below.setCell ?_ (by first | (simp; done) | (simp only; omega)) _) | (with_reducible refine kb_call (by with_reducible assumption) ?_) | (with_reducible refine kc_call (by with_reducible assumption) ?_ (by simp only [World.size_alloc]; omega)) | (with_reducible refine k_call (by with_reducible assumption) ?_))); done) | (with_reducible exact k_realloc (by with_reducible assumption) (by simp only; omega)) | (go_simp; done) | (simp [*]; done))))
        (first | (go_at_call 79; refine (with_any _ _ _ _ _ f0 f1).mono ?_; rintro e w' ⟨rfl, hb1⟩))
      have hB2 : Below w.heap.size w w' := ‹_ ∧ _ ∧ _ ∧ _›.2.2.2
      clear hb1 h0 h1 h2
      go_wp2
      go_roundw
      case rel => exact ⟨k + 1, by omega, by go_num, rfl, hB2⟩
      case measure => simp [intOf]; omega
    · go_wp2
      go_ret
      obtain rfl : k = n := by omega
      exact ⟨rfl, hB⟩

set_option maxHeartbeats 400000 in
theorem within_any (b n : Nat) (f : Nat → Int × Int × Int) (w : World) (hb : b < w.heap.size) (hn : n ≤ 100)
   (hc0 : ∀ i, i < n → w.cell? ⟨b, i*3, none⟩ = some (.int .i64 (f i).1))
   (hc1 : ∀ i, i < n → w.cell? ⟨b, i*3+1, none⟩ = some (.int .i64 (f i).2.1))
   (hc2 : ∀ i, i < n → w.cell? ⟨b, i*3+2, none⟩ = some (.int .i64 (f i).2.2)) :
    Calls Try.prog 62 #[.slice (some ⟨b, 0, none⟩) n n] w fun e w' => e = .returned (.bool (inAll f n)) ∧ Below w.heap.size w w' := by
  have H0 := Lib.hid hc0
  have H1 := Lib.hid hc1
  have H2 := Lib.hid hc2
  clear hc0 hc1 hc2
  go_enter Try.func62, Try.ntmps62
  go_wp2
  go_loopw [7] (fun i wr => ∃ k : Nat, k ≤ n ∧ i = .int .i64 k ∧ inAll f k = true ∧ Below w.heap.size w wr) (fun i _ => n - (intOf i).toNat)
  case atStart => exact ⟨0, by omega, rfl, rfl, Below.refl _ _⟩
  case round =>
    obtain ⟨k, hk, rfl, hall, hB⟩ := hrel
    have HA := Lib.hid hall
    clear hall
    by_cases hlt : k < n
    · have h0 := (hB.cell (p := ⟨b, k*3, none⟩) hb).trans (H0.out k hlt)
      have h1 := (hB.cell (p := ⟨b, k*3+1, none⟩) hb).trans (H1.out k hlt)
      have h2 := (hB.cell (p := ⟨b, k*3+2, none⟩) hb).trans (H2.out k hlt)
      have HB2 := kb_alloc (o := .cells #[.int .i64 (f k).1, .int .i64 (f k).2.1, .int .i64 (f k).2.2] 92) hB
      by_cases hlo : (f k).1 < (f k).2.1
      · go_wp2
        go_ret
        exact ⟨ret_bool (by rw [inAll_no f hlt (by omega)]), HB2⟩
      · by_cases hhi : (f k).2.2 < (f k).1
        · go_wp2
          go_ret
          exact ⟨ret_bool (by rw [inAll_no f hlt (by omega)]), HB2⟩
        · go_wp2
          go_roundw
          case rel => exact ⟨k + 1, by omega, by go_num, by simp only [inAll, HA.out]; simp; omega, HB2⟩
          case measure => simp [intOf]; omega
    · go_wp2
      go_ret
      obtain rfl : k = n := by omega
      exact ⟨ret_bool HA.out.symm, hB⟩

theorem within2 (a0 a1 a2 b0 b1 b2 : Int) (b : Nat) (w : World) (h0 : w.cell? ⟨b, 0, none⟩ = some (.int .i64 a0)) (h1 : w.cell? ⟨b, 1, none⟩ = some (.int .i64 a1)) (h2 : w.cell? ⟨b, 2, none⟩ = some (.int .i64 a2))
    (h3 : w.cell? ⟨b, 3, none⟩ = some (.int .i64 b0)) (h4 : w.cell? ⟨b, 4, none⟩ = some (.int .i64 b1)) (h5 : w.cell? ⟨b, 5, none⟩ = some (.int .i64 b2)) :
    Calls Try.prog 62 #[.slice (some ⟨b, 0, none⟩) 2 2] w fun e w' => e = .returned (.bool (decide (a1 ≤ a0 ∧ a0 ≤ a2 ∧ b1 ≤ b0 ∧ b0 ≤ b2))) ∧ Below w.heap.size w w' := by
  refine (within_any b 2 (fun i => if i = 0 then (a0, a1, a2) else (b0, b1, b2)) w (World.block_lt_of_cell? w _ h0) (by omega) ?_ ?_ ?_).mono ?_
  · intro i hi; match i, hi with | 0, _ => exact h0 | 1, _ => exact h3
  · intro i hi; match i, hi with | 0, _ => exact h1 | 1, _ => exact h4
  · intro i hi; match i, hi with | 0, _ => exact h2 | 1, _ => exact h5
  · rintro e w' ⟨rfl, hb⟩
    exact ⟨ret_bool (by simp [inAll, Bool.and_assoc]), hb⟩

theorem within3 (a0 a1 a2 b0 b1 b2 c0 c1 c2 : Int) (b : Nat) (w : World) (h0 : w.cell? ⟨b, 0, none⟩ = some (.int .i64 a0)) (h1 : w.cell? ⟨b, 1, none⟩ = some (.int .i64 a1)) (h2 : w.cell? ⟨b, 2, none⟩ = some (.int .i64 a2))
    (h3 : w.cell? ⟨b, 3, none⟩ = some (.int .i64 b0)) (h4 : w.cell? ⟨b, 4, none⟩ = some (.int .i64 b1)) (h5 : w.cell? ⟨b, 5, none⟩ = some (.int .i64 b2))
    (h6 : w.cell? ⟨b, 6, none⟩ = some (.int .i64 c0)) (h7 : w.cell? ⟨b, 7, none⟩ = some (.int .i64 c1)) (h8 : w.cell? ⟨b, 8, none⟩ = some (.int .i64 c2)) :
    Calls Try.prog 62 #[.slice (some ⟨b, 0, none⟩) 3 3] w fun e w' => e = .returned (.bool (decide (a1 ≤ a0 ∧ a0 ≤ a2 ∧ b1 ≤ b0 ∧ b0 ≤ b2 ∧ c1 ≤ c0 ∧ c0 ≤ c2))) ∧ Below w.heap.size w w' := by
  refine (within_any b 3 (fun i => if i = 0 then (a0, a1, a2) else if i = 1 then (b0, b1, b2) else (c0, c1, c2)) w (World.block_lt_of_cell? w _ h0) (by omega) ?_ ?_ ?_).mono ?_
  · intro i hi; match i, hi with | 0, _ => exact h0 | 1, _ => exact h3 | 2, _ => exact h6
  · intro i hi; match i, hi with | 0, _ => exact h1 | 1, _ => exact h4 | 2, _ => exact h7
  · intro i hi; match i, hi with | 0, _ => exact h2 | 1, _ => exact h5 | 2, _ => exact h8
  · rintro e w' ⟨rfl, hb⟩
    exact ⟨ret_bool (by simp [inAll, Bool.and_assoc]), hb⟩

theorem lay2 (f0 m0 f1 m1 n0 n1 : Int) (tb nb : Nat) (w : World) (hf : 0 ≤ f0 ∧ f0 < 64 ∧ 0 ≤ f1 ∧ f1 < 64)
    (h0 : w.cell? ⟨tb, 0, none⟩ = some (.int .i64 f0)) (h1 : w.cell? ⟨tb, 1, none⟩ = some (.int .i64 m0)) (h2 : w.cell? ⟨tb, 2, none⟩ = some (.int .i64 f1)) (h3 : w.cell? ⟨tb, 3, none⟩ = some (.int .i64 m1))
    (h4 : w.cell? ⟨nb, 0, none⟩ = some (.int .i64 n0)) (h5 : w.cell? ⟨nb, 1, none⟩ = some (.int .i64 n1)) :
    Calls Try.prog 64 #[.slice (some ⟨tb, 0, none⟩) 2 2, .slice (some ⟨nb, 0, none⟩) 2 2] w fun e w' =>
      e = .returned (.int .u64 (layF (fun i => if i = 0 then f0 else f1) (fun i => if i = 0 then n0 else n1) 2)) ∧ Below w.heap.size w w' := by
  refine lay_any 2 tb nb _ (fun i => if i = 0 then m0 else m1) _ w (by omega) (World.block_lt_of_cell? w _ h0) (World.block_lt_of_cell? w _ h4) ?_ ?_ ?_ ?_
  · intro i hi; match i, hi with | 0, _ => exact ⟨hf.1, hf.2.1⟩ | 1, _ => exact hf.2.2
  · intro i hi; match i, hi with | 0, _ => exact h0 | 1, _ => exact h2
  · intro i hi; match i, hi with | 0, _ => exact h1 | 1, _ => exact h3
  · intro i hi; match i, hi with | 0, _ => exact h4 | 1, _ => exact h5

theorem lay3 (f0 m0 f1 m1 f2 m2 n0 n1 n2 : Int) (tb nb : Nat) (w : World) (hf : 0 ≤ f0 ∧ f0 < 64 ∧ 0 ≤ f1 ∧ f1 < 64 ∧ 0 ≤ f2 ∧ f2 < 64)
    (h0 : w.cell? ⟨tb, 0, none⟩ = some (.int .i64 f0)) (h1 : w.cell? ⟨tb, 1, none⟩ = some (.int .i64 m0)) (h2 : w.cell? ⟨tb, 2, none⟩ = some (.int .i64 f1)) (h3 : w.cell? ⟨tb, 3, none⟩ = some (.int .i64 m1))
    (h4 : w.cell? ⟨tb, 4, none⟩ = some (.int .i64 f2)) (h5 : w.cell? ⟨tb, 5, none⟩ = some (.int .i64 m2))
    (h6 : w.cell? ⟨nb, 0, none⟩ = some (.int .i64 n0)) (h7 : w.cell? ⟨nb, 1, none⟩ = some (.int .i64 n1)) (h8 : w.cell? ⟨nb, 2, none⟩ = some (.int .i64 n2)) :
    Calls Try.prog 64 #[.slice (some ⟨tb, 0, none⟩) 3 3, .slice (some ⟨nb, 0, none⟩) 3 3] w fun e w' =>
      e = .returned (.int .u64 (layF (fun i => if i = 0 then f0 else if i = 1 then f1 else f2) (fun i => if i = 0 then n0 else if i = 1 then n1 else n2) 3)) ∧ Below w.heap.size w w' := by
  refine lay_any 3 tb nb _ (fun i => if i = 0 then m0 else if i = 1 then m1 else m2) _ w (by omega) (World.block_lt_of_cell? w _ h0) (World.block_lt_of_cell? w _ h6) ?_ ?_ ?_ ?_
  · intro i hi; match i, hi with | 0, _ => exact ⟨hf.1, hf.2.1⟩ | 1, _ => exact ⟨hf.2.2.1, hf.2.2.2.1⟩ | 2, _ => exact hf.2.2.2.2
  · intro i hi; match i, hi with | 0, _ => exact h0 | 1, _ => exact h2 | 2, _ => exact h4
  · intro i hi; match i, hi with | 0, _ => exact h1 | 1, _ => exact h3 | 2, _ => exact h5
  · intro i hi; match i, hi with | 0, _ => exact h6 | 1, _ => exact h7 | 2, _ => exact h8

set_option maxHeartbeats 400000 in
theorem refs_any (w : World) : Calls Try.prog 63 #[] w fun e w' => e = .returned (.agg #[.int .i64 0, .int .i64 16, .int .i64 16, .int .i64 32]) ∧ Below w.heap.size w w' := by
  go_enter Try.func63, Try.ntmps63
  go_wp2
  go_returns
  exact ⟨rfl, by go_grown⟩
set_option maxHeartbeats 400000 in
theorem tops_any (w : World) : Calls Try.prog 66 #[] w fun e w' => e = .returned (.agg #[.int .i64 0, .int .i64 16, .int .i64 16, .int .i64 48]) ∧ Below w.heap.size w w' := by
  go_enter Try.func66, Try.ntmps66
  go_wp2
  go_returns
  exact ⟨rfl, by go_grown⟩
set_option maxHeartbeats 400000 in
theorem slots_any (w : World) : Calls Try.prog 67 #[] w fun e w' => e = .returned (.agg #[.int .i64 0, .int .i64 16, .int .i64 16, .int .i64 1, .int .i64 32, .int .i64 32]) ∧ Below w.heap.size w w' := by
  go_enter Try.func67, Try.ntmps67
  go_wp2
  go_returns
  exact ⟨rfl, by go_grown⟩
set_option maxHeartbeats 400000 in
theorem keys_any (w : World) : Calls Try.prog 68 #[] w fun e w' => e = .returned (.agg #[.int .i64 0, .int .i64 16, .int .i64 16, .int .i64 40, .int .i64 56, .int .i64 8]) ∧ Below w.heap.size w w' := by
  go_enter Try.func68, Try.ntmps68
  go_wp2
  go_returns
  exact ⟨rfl, by go_grown⟩
end Go.Proofs.Ytbkaclkbjpdfnaa
