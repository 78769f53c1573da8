/- Finds: the small contracts hold (printed by gen_qv.py). -/
import Derived.Test.YtbmbiiiacajolaaGreatQaT
namespace Go.Proofs.YtbmbiiiacajolaaGreat
set_option linter.unusedVariables false
set_option linter.unusedSimpArgs false
set_option linter.unusedSectionVars false
open Go Go.RowKit

theorem shr63 (w : Int) : w.fdiv (2 ^ min (Int.toNat 63) IntKind.u64.bits) = w / 9223372036854775808 := by
  show w.fdiv (2 ^ min 63 64) = _
  rw [Int.fdiv_eq_ediv_of_nonneg _ (by decide)]; rfl
theorem shr0 (w : Int) : w.fdiv (2 ^ min (Int.toNat 0) IntKind.u64.bits) = w := by
  show w.fdiv (2 ^ min 0 64) = _
  rw [Int.fdiv_eq_ediv_of_nonneg _ (by decide)]; exact Int.ediv_one w
theorem and16 {w : Int} (h : isW w) : bits .and .u64 w 65535 = w % 65536 := and_mod 16 w (by decide) h.1 h.2
theorem andN {w : Int} (h : isW w) : bits .andNot .u64 w 9223372036854775808 = w % 9223372036854775808 := by
  obtain ⟨h0, h1⟩ := h
  rw [u64_andNot w _ h0 h1 (by omega) (by omega)]
  obtain ⟨y, rfl⟩ := Int.eq_ofNat_of_zero_le h0
  have e : (18446744073709551615 - (9223372036854775808 : Int).toNat) = 2 ^ 63 - 1 := by decide
  have e2 : ((y : Int)).toNat = y := by omega
  rw [e, e2, Nat.and_two_pow_sub_one_eq_mod]
  omega
theorem ixw_den {e : List (EV U)} {i : Nat} (h : isW (gI e i)) : (Ex.bin .sub .i64 (.conv .i64 (.bin .and .u64 (.bin .shr .u64 (.var i) (.lit 0)) (.lit 65535))) (.lit 1)).den e = gI e i % 65536 - 1 := by
  show IntKind.i64.wrap (IntKind.i64.wrap (bits .and .u64 ((gI e i).fdiv (2 ^ min (Int.toNat 0) IntKind.u64.bits)) 65535) - 1) = _
  rw [shr0, and16 h, wrap_small (n := gI e i % 65536) (by omega) (by omega), wrap_small (by omega) (by omega)]
theorem ixw_denQ {e : List (EV U)} {i : Nat} (h : isW (gI e i)) : (Ex.bin .sub .i64 (.conv .i64 (.bin .rem .u64 (.var i) (.lit 65536))) (.lit 1)).den e = gI e i % 65536 - 1 := by
  show IntKind.i64.wrap (IntKind.i64.wrap ((gI e i).tmod 65536) - 1) = _
  rw [Int.tmod_eq_emod_of_nonneg h.1, wrap_small (n := gI e i % 65536) (by omega) (by omega), wrap_small (by omega) (by omega)]
theorem vFIdx1 (P : Program) (hs : List (Nat × Nat × List Nat)) : ∀ ins, ins.length = cFIdx1.nin → cFIdx1.pre ins → tFIdx1.sat { cxQi P with hints := hs } (ctrR cFIdx1) ins := by
  intro ins hl hp
  have hp' : isW (gI ins 25) := hp
  have e := ixw_den hp'
  have ht : ins.take cFIdx1.nin = ins := List.take_of_length_le (Nat.le_of_eq hl)
  have hR : ∀ x, x = idxW (gI ins 5) (gI ins 25) → ctrR cFIdx1 ins [.i x] := by
    intro x hx
    show cFIdx1.may (ins.take cFIdx1.nin) [.i x]
    rw [ht, hx]; rfl
  unfold tFIdx1
  repeat' (first | with_reducible refine st_and ?_ ?_ | with_reducible exact st_ok | with_reducible refine st_br (fun hc => ?_) (fun hc => ?_))
  all_goals refine st_ret rfl (hR _ ?_)
  all_goals first
    | (have hc' : gI ins 5 ≤ gI ins 25 % 65536 - 1 := by rw [← e]; exact (cmp_geq_t _ _).mp hc
       show (-1 : Int) = _
       rw [idxW, if_pos (by omega)])
    | (have hc' : gI ins 25 % 65536 - 1 < gI ins 5 := by rw [← e]; exact (cmp_geq_f _ _).mp hc
       rw [idxW, if_neg (by omega)]; exact e)
theorem hFIdx1 : cFIdx1.Holds objs Tryz.prog := runCtr_holds (X := { cxQi Tryz.prog with hints := hsFIdx1 }) objsOk mixed noCts (callable _ Tryz.func53 (by kernel_rfl) (by kernel_rfl)) (by intro ins _ _; rfl) (by rw [rFIdx1]; exact vFIdx1 _ _)
theorem vFIdx2 (P : Program) (hs : List (Nat × Nat × List Nat)) : ∀ ins, ins.length = cFIdx2.nin → cFIdx2.pre ins → tFIdx2.sat { cxQi P with hints := hs } (ctrR cFIdx2) ins := by
  intro ins hl hp
  have hp' : isW (gI ins 25) := hp
  have e := ixw_den hp'
  have ht : ins.take cFIdx2.nin = ins := List.take_of_length_le (Nat.le_of_eq hl)
  have hR : ∀ x, x = idxW (gI ins 5) (gI ins 25) → ctrR cFIdx2 ins [.i x] := by
    intro x hx
    show cFIdx2.may (ins.take cFIdx2.nin) [.i x]
    rw [ht, hx]; rfl
  unfold tFIdx2
  repeat' (first | with_reducible refine st_and ?_ ?_ | with_reducible exact st_ok | with_reducible refine st_br (fun hc => ?_) (fun hc => ?_))
  all_goals refine st_ret rfl (hR _ ?_)
  all_goals first
    | (have hc' : gI ins 5 ≤ gI ins 25 % 65536 - 1 := by rw [← e]; exact (cmp_geq_t _ _).mp hc
       show (-1 : Int) = _
       rw [idxW, if_pos (by omega)])
    | (have hc' : gI ins 25 % 65536 - 1 < gI ins 5 := by rw [← e]; exact (cmp_geq_f _ _).mp hc
       rw [idxW, if_neg (by omega)]; exact e)
theorem hFIdx2 : cFIdx2.Holds objs Tryz.prog := runCtr_holds (X := { cxQi Tryz.prog with hints := hsFIdx2 }) objsOk mixed noCts (callable _ Tryz.func53 (by kernel_rfl) (by kernel_rfl)) (by intro ins _ _; rfl) (by rw [rFIdx2]; exact vFIdx2 _ _)
theorem vFIdx3 (P : Program) (hs : List (Nat × Nat × List Nat)) : ∀ ins, ins.length = cFIdx3.nin → cFIdx3.pre ins → tFIdx3.sat { cxQi P with hints := hs } (ctrR cFIdx3) ins := by
  intro ins hl hp
  have hp' : isW (gI ins 25) := hp
  have e := ixw_den hp'
  have ht : ins.take cFIdx3.nin = ins := List.take_of_length_le (Nat.le_of_eq hl)
  have hR : ∀ x, x = idxW (gI ins 5) (gI ins 25) → ctrR cFIdx3 ins [.i x] := by
    intro x hx
    show cFIdx3.may (ins.take cFIdx3.nin) [.i x]
    rw [ht, hx]; rfl
  unfold tFIdx3
  repeat' (first | with_reducible refine st_and ?_ ?_ | with_reducible exact st_ok | with_reducible refine st_br (fun hc => ?_) (fun hc => ?_))
  all_goals refine st_ret rfl (hR _ ?_)
  all_goals first
    | (have hc' : gI ins 5 ≤ gI ins 25 % 65536 - 1 := by rw [← e]; exact (cmp_geq_t _ _).mp hc
       show (-1 : Int) = _
       rw [idxW, if_pos (by omega)])
    | (have hc' : gI ins 25 % 65536 - 1 < gI ins 5 := by rw [← e]; exact (cmp_geq_f _ _).mp hc
       rw [idxW, if_neg (by omega)]; exact e)
theorem hFIdx3 : cFIdx3.Holds objs Tryz.prog := runCtr_holds (X := { cxQi Tryz.prog with hints := hsFIdx3 }) objsOk mixed noCts (callable _ Tryz.func53 (by kernel_rfl) (by kernel_rfl)) (by intro ins _ _; rfl) (by rw [rFIdx3]; exact vFIdx3 _ _)
theorem vFIdx4 (P : Program) (hs : List (Nat × Nat × List Nat)) : ∀ ins, ins.length = cFIdx4.nin → cFIdx4.pre ins → tFIdx4.sat { cxQi P with hints := hs } (ctrR cFIdx4) ins := by
  intro ins hl hp
  have hp' : isW (gI ins 25) := hp
  have e := ixw_den hp'
  have ht : ins.take cFIdx4.nin = ins := List.take_of_length_le (Nat.le_of_eq hl)
  have hR : ∀ x, x = idxW (gI ins 5) (gI ins 25) → ctrR cFIdx4 ins [.i x] := by
    intro x hx
    show cFIdx4.may (ins.take cFIdx4.nin) [.i x]
    rw [ht, hx]; rfl
  unfold tFIdx4
  repeat' (first | with_reducible refine st_and ?_ ?_ | with_reducible exact st_ok | with_reducible refine st_br (fun hc => ?_) (fun hc => ?_))
  all_goals refine st_ret rfl (hR _ ?_)
  all_goals first
    | (have hc' : gI ins 5 ≤ gI ins 25 % 65536 - 1 := by rw [← e]; exact (cmp_geq_t _ _).mp hc
       show (-1 : Int) = _
       rw [idxW, if_pos (by omega)])
    | (have hc' : gI ins 25 % 65536 - 1 < gI ins 5 := by rw [← e]; exact (cmp_geq_f _ _).mp hc
       rw [idxW, if_neg (by omega)]; exact e)
theorem hFIdx4 : cFIdx4.Holds objs Tryz.prog := runCtr_holds (X := { cxQi Tryz.prog with hints := hsFIdx4 }) objsOk mixed noCts (callable _ Tryz.func53 (by kernel_rfl) (by kernel_rfl)) (by intro ins _ _; rfl) (by rw [rFIdx4]; exact vFIdx4 _ _)
theorem vIdxQ (P : Program) (hs : List (Nat × Nat × List Nat)) : ∀ ins, ins.length = cIdxQ.nin → cIdxQ.pre ins → tIdxQ.sat { cxQi P with hints := hs } (ctrR cIdxQ) ins := by
  rintro ins _ ⟨a0, a1, a2, a3, a4, a5, a6, a7, a8, a9, a10, a11, a12, w, rfl, hw⟩
  have e := ixw_denQ (e := [.i a0, .i a1, .i a2, .i a3, .i a4, .i a5, .i a6, .i a7, .i a8, .i a9, .i a10, .i a11, .i a12, .i w]) (i := 13) hw
  unfold tIdxQ
  refine st_br (fun hc => ?_) (fun hc => ?_)
  · refine st_ret rfl ?_
    have hc' : a5 ≤ w % 65536 - 1 := by
      have e' : _ = w % 65536 - 1 := e
      rw [← e']; exact (cmp_geq_t _ _).mp hc
    show [EV.i (-1)] = [EV.i (idxW a5 w)]
    rw [idxW, if_pos (by omega)]
  · refine st_ret rfl ?_
    have hc' : w % 65536 - 1 < a5 := by
      have e' : _ = w % 65536 - 1 := e
      rw [← e']; exact (cmp_geq_f _ _).mp hc
    show [EV.i _] = [EV.i (idxW a5 w)]
    rw [idxW, if_neg (by omega)]; exact congrArg (fun x => [EV.i x]) e
theorem hIdxQ : cIdxQ.Holds objs Tryz.prog := runCtr_holds (X := { cxQi Tryz.prog with hints := hsIdxQ }) objsOk mixed noCts (callable _ Tryz.func100 (by kernel_rfl) (by kernel_rfl)) (by rintro ins _ ⟨_, _, _, _, _, _, _, _, _, _, _, _, _, _, rfl, _⟩; rfl) (by rw [rIdxQ]; exact vIdxQ _ _)
theorem out_atP (a0 a1 a2 a3 a4 a5 a6 a7 a8 a9 a10 a11 a12 i p : Int) : cAt.out [.i a0, .i a1, .i a2, .i a3, .i a4, .i a5, .i a6, .i a7, .i a8, .i a9, .i a10, .i a11, .i a12, .i i, .i p] = [.i (atT a0 a1 a2 a5 i p)] := rfl
theorem out_atQ (a0 a1 a2 a3 a4 a5 a6 a7 a8 a9 a10 a11 a12 i p : Int) : cRAt.out [.i a0, .i a1, .i a2, .i a3, .i a4, .i a5, .i a6, .i a7, .i a8, .i a9, .i a10, .i a11, .i a12, .i i, .i p] = [.i (atT a0 a1 a2 a5 i p)] := rfl
theorem out_nextP (a0 a1 a2 a3 a4 a5 a6 a7 a8 a9 a10 a11 a12 i l : Int) : cNextP.out [.i a0, .i a1, .i a2, .i a3, .i a4, .i a5, .i a6, .i a7, .i a8, .i a9, .i a10, .i a11, .i a12, .i i, .i l] = [.i (nextT a0 a1 a2 a5 i l)] := rfl
theorem out_nextQ (a0 a1 a2 a3 a4 a5 a6 a7 a8 a9 a10 a11 a12 i l : Int) : cNextQ.out [.i a0, .i a1, .i a2, .i a3, .i a4, .i a5, .i a6, .i a7, .i a8, .i a9, .i a10, .i a11, .i a12, .i i, .i l] = [.i (nextT a0 a1 a2 a5 i l)] := rfl
theorem out_idxQ (a0 a1 a2 a3 a4 a5 a6 a7 a8 a9 a10 a11 a12 w : Int) : cIdxQ.out [.i a0, .i a1, .i a2, .i a3, .i a4, .i a5, .i a6, .i a7, .i a8, .i a9, .i a10, .i a11, .i a12, .i w] = [.i (idxW a5 w)] := rfl
theorem vNextP (P : Program) (hs : List (Nat × Nat × List Nat)) : ∀ ins, ins.length = cNextP.nin → cNextP.pre ins → tNextP.sat { cxQ0 P with hints := hs } (ctrR cNextP) ins := by
  rintro ins _ ⟨a0, a1, a2, a3, a4, a5, a6, a7, a8, a9, a10, a11, a12, i, l, rfl⟩
  have e0 : ∀ x : Int, 0 ≤ x → x < 4 → IntKind.i64.wrap (4 + x) = 4 + x := fun x h0 h1 => wrap_small (by omega) (by omega)
  unfold tNextP
  repeat' (first
    | (first
      | (with_reducible refine st_need ?_ ?_
         focus (simp only [dn, reduceCtorEq, e0, va_map] <;> first | omega | assumption))
      | (with_reducible refine st_and ?_ ?_)
      | (with_reducible exact st_ok)
      | (with_reducible refine st_br (fun hc => ?_) (fun hc => ?_) <;> (simp only [dn, reduceCtorEq, e0, va_map] at hc) <;> (try (exfalso; first | contradiction | omega)))
      | (refine st_call (by rfl) (by simp only [dn, reduceCtorEq, e0, va_map] <;> rfl) ?_ (by simp only [out_atP, out_atQ] <;> rfl) (by simp only [dn] <;> rfl) ?_
         focus (first | exact ⟨_, _, _, _, _, _, _, _, _, _, _, _, _, _, _, rfl⟩)))
    | (refine st_ret (by simp only [dn, reduceCtorEq, e0] <;> rfl) ?_
       show _ = [EV.i (nextT a0 a1 a2 a5 i l)]
       unfold nextT
       first
         | (rw [if_pos (by omega)]; done)
         | (rw [if_neg (by omega), e0 l (by omega) (by omega)]; done))
    | fail "no step")
theorem hNextP : cNextP.Holds objs Tryz.prog := runCtr_holds (X := { cxQ0 Tryz.prog with hints := hsNextP }) objsOk mixed (by
  intro ci c h
  match ci, h with
  | 0, h => cases h; exact hAt
  | n + 1, h => cases h) (callable _ Tryz.func46 (by kernel_rfl) (by kernel_rfl)) (by rintro ins _ ⟨_, _, _, _, _, _, _, _, _, _, _, _, _, _, _, rfl⟩; rfl) (by rw [rNextP]; exact vNextP _ _)
theorem vNextQ (P : Program) (hs : List (Nat × Nat × List Nat)) : ∀ ins, ins.length = cNextQ.nin → cNextQ.pre ins → tNextQ.sat { cxQ1 P with hints := hs } (ctrR cNextQ) ins := by
  rintro ins _ ⟨a0, a1, a2, a3, a4, a5, a6, a7, a8, a9, a10, a11, a12, i, l, rfl⟩
  have e0 : ∀ x : Int, 0 ≤ x → x < 4 → IntKind.i64.wrap (4 + x) = 4 + x := fun x h0 h1 => wrap_small (by omega) (by omega)
  unfold tNextQ
  repeat' (first
    | (first
      | (with_reducible refine st_need ?_ ?_
         focus (simp only [dn, reduceCtorEq, e0, va_map] <;> first | omega | assumption))
      | (with_reducible refine st_and ?_ ?_)
      | (with_reducible exact st_ok)
      | (with_reducible refine st_br (fun hc => ?_) (fun hc => ?_) <;> (simp only [dn, reduceCtorEq, e0, va_map] at hc) <;> (try (exfalso; first | contradiction | omega)))
      | (refine st_call (by rfl) (by simp only [dn, reduceCtorEq, e0, va_map] <;> rfl) ?_ (by simp only [out_atP, out_atQ] <;> rfl) (by simp only [dn] <;> rfl) ?_
         focus (first | exact ⟨_, _, _, _, _, _, _, _, _, _, _, _, _, _, _, rfl⟩)))
    | (refine st_ret (by simp only [dn, reduceCtorEq, e0] <;> rfl) ?_
       show _ = [EV.i (nextT a0 a1 a2 a5 i l)]
       unfold nextT
       first
         | (rw [if_pos (by omega)]; done)
         | (rw [if_neg (by omega), e0 l (by omega) (by omega)]; done))
    | fail "no step")
theorem hNextQ : cNextQ.Holds objs Tryz.prog := runCtr_holds (X := { cxQ1 Tryz.prog with hints := hsNextQ }) objsOk mixed (by
  intro ci c h
  match ci, h with
  | 0, h => cases h; exact hRAt
  | n + 1, h => cases h) (callable _ Tryz.func62 (by kernel_rfl) (by kernel_rfl)) (by rintro ins _ ⟨_, _, _, _, _, _, _, _, _, _, _, _, _, _, _, rfl⟩; rfl) (by rw [rNextQ]; exact vNextQ _ _)
end Go.Proofs.YtbmbiiiacajolaaGreat
