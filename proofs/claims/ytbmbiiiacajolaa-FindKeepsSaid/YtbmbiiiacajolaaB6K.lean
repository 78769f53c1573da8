/- Texts of this proof. -/
import Derived.Test.YtbmbiiiacajolaaQaTK
import Derived.Test.YtbmbiiiacajolaaB5K
import Derived.Test.YtbmbiiiacajolaaXbK
namespace Go.Proofs.Ytbmbiiiacajolaa
set_option linter.unusedVariables false
set_option linter.unusedSimpArgs false
set_option linter.unusedSectionVars false
open Go Go.RowKit
theorem shr63 (w : Int) : w.fdiv (2 ^ min (Int.toNat 63) IntKind.u64.bits) = w / 9223372036854775808 := by
 show w.fdiv (2 ^ min 63 64) = _
 rw [Int.fdiv_eq_ediv_of_nonneg _ (by decide)]; rfl
theorem shr0 (w : Int) : w.fdiv (2 ^ min (Int.toNat 0) IntKind.u64.bits) = w := by
 show w.fdiv (2 ^ min 0 64) = _
 rw [Int.fdiv_eq_ediv_of_nonneg _ (by decide)]; exact Int.ediv_one w
theorem and16 {w : Int} (h : isW w) : bits .and .u64 w 65535 = w % 65536 := and_mod 16 w (by decide) h.1 h.2
theorem andN {w : Int} (h : isW w) : bits .andNot .u64 w 9223372036854775808 = w % 9223372036854775808 := by
 obtain ⟨h0, h1⟩ := h
 rw [u64_andNot w _ h0 h1 (by omega) (by omega)]
 obtain ⟨y, rfl⟩ := Int.eq_ofNat_of_zero_le h0
 have e : (18446744073709551615 - (9223372036854775808 : Int).toNat) = 2 ^ 63 - 1 := by decide
 have e2 : ((y : Int)).toNat = y := by omega
 rw [e, e2, Nat.and_two_pow_sub_one_eq_mod]
 omega
theorem ixw_den {e : List (EV U)} {i : Nat} (h : isW (gI e i)) : (Ex.bin .sub .i64 (.conv .i64 (.bin .and .u64 (.bin .shr .u64 (.var i) (.lit 0)) (.lit 65535))) (.lit 1)).den e = gI e i % 65536 - 1 := by
 show IntKind.i64.wrap (IntKind.i64.wrap (bits .and .u64 ((gI e i).fdiv (2 ^ min (Int.toNat 0) IntKind.u64.bits)) 65535) - 1) = _
 rw [shr0, and16 h, wrap_small (n := gI e i % 65536) (by omega) (by omega), wrap_small (by omega) (by omega)]
theorem vFIdx1 (P : Program) (hs : List (Nat × Nat × List Nat)) : ∀ ins, ins.length = cFIdx1.nin → cFIdx1.pre ins → tFIdx1.sat { cxQi P with hints := hs } (ctrR cFIdx1) ins := by
 intro ins hl hp
 have hp' : isW (gI ins 25) := hp
 have e := ixw_den hp'
 have ht : ins.take cFIdx1.nin = ins := List.take_of_length_le (Nat.le_of_eq hl)
 have hR : ∀ x, x = idxW (gI ins 5) (gI ins 25) → ctrR cFIdx1 ins [.i x] := by
  intro x hx
  show cFIdx1.may (ins.take cFIdx1.nin) [.i x]
  rw [ht, hx]; rfl
 unfold tFIdx1
 repeat' (first | with_reducible refine st_and ?_ ?_ | with_reducible exact st_ok | with_reducible refine st_br (fun hc => ?_) (fun hc => ?_))
 all_goals refine st_ret rfl (hR _ ?_)
 all_goals first
  | (have hc' : gI ins 5 ≤ gI ins 25 % 65536 - 1 := by rw [← e]; exact (cmp_geq_t _ _).mp hc
     show (-1 : Int) = _
     rw [idxW, if_pos (by omega)])
  | (have hc' : gI ins 25 % 65536 - 1 < gI ins 5 := by rw [← e]; exact (cmp_geq_f _ _).mp hc
     rw [idxW, if_neg (by omega)]; exact e)
theorem hFIdx1 : cFIdx1.Holds objs Try.prog := runCtr_holds (X := { cxQi Try.prog with hints := hsFIdx1 }) objsOk mixed noCts (callable _ Try.func78 (by kernel_rfl) (by kernel_rfl)) (by intro ins _ _; rfl) (by rw [rFIdx1]; exact vFIdx1 _ _)
theorem vFIdx2 (P : Program) (hs : List (Nat × Nat × List Nat)) : ∀ ins, ins.length = cFIdx2.nin → cFIdx2.pre ins → tFIdx2.sat { cxQi P with hints := hs } (ctrR cFIdx2) ins := by
 intro ins hl hp
 have hp' : isW (gI ins 25) := hp
 have e := ixw_den hp'
 have ht : ins.take cFIdx2.nin = ins := List.take_of_length_le (Nat.le_of_eq hl)
 have hR : ∀ x, x = idxW (gI ins 5) (gI ins 25) → ctrR cFIdx2 ins [.i x] := by
  intro x hx
  show cFIdx2.may (ins.take cFIdx2.nin) [.i x]
  rw [ht, hx]; rfl
 unfold tFIdx2
 repeat' (first | with_reducible refine st_and ?_ ?_ | with_reducible exact st_ok | with_reducible refine st_br (fun hc => ?_) (fun hc => ?_))
 all_goals refine st_ret rfl (hR _ ?_)
 all_goals first
  | (have hc' : gI ins 5 ≤ gI ins 25 % 65536 - 1 := by rw [← e]; exact (cmp_geq_t _ _).mp hc
     show (-1 : Int) = _
     rw [idxW, if_pos (by omega)])
  | (have hc' : gI ins 25 % 65536 - 1 < gI ins 5 := by rw [← e]; exact (cmp_geq_f _ _).mp hc
     rw [idxW, if_neg (by omega)]; exact e)
theorem hFIdx2 : cFIdx2.Holds objs Try.prog := runCtr_holds (X := { cxQi Try.prog with hints := hsFIdx2 }) objsOk mixed noCts (callable _ Try.func78 (by kernel_rfl) (by kernel_rfl)) (by intro ins _ _; rfl) (by rw [rFIdx2]; exact vFIdx2 _ _)
theorem vFIdx3 (P : Program) (hs : List (Nat × Nat × List Nat)) : ∀ ins, ins.length = cFIdx3.nin → cFIdx3.pre ins → tFIdx3.sat { cxQi P with hints := hs } (ctrR cFIdx3) ins := by
 intro ins hl hp
 have hp' : isW (gI ins 25) := hp
 have e := ixw_den hp'
 have ht : ins.take cFIdx3.nin = ins := List.take_of_length_le (Nat.le_of_eq hl)
 have hR : ∀ x, x = idxW (gI ins 5) (gI ins 25) → ctrR cFIdx3 ins [.i x] := by
  intro x hx
  show cFIdx3.may (ins.take cFIdx3.nin) [.i x]
  rw [ht, hx]; rfl
 unfold tFIdx3
 repeat' (first | with_reducible refine st_and ?_ ?_ | with_reducible exact st_ok | with_reducible refine st_br (fun hc => ?_) (fun hc => ?_))
 all_goals refine st_ret rfl (hR _ ?_)
 all_goals first
  | (have hc' : gI ins 5 ≤ gI ins 25 % 65536 - 1 := by rw [← e]; exact (cmp_geq_t _ _).mp hc
     show (-1 : Int) = _
     rw [idxW, if_pos (by omega)])
  | (have hc' : gI ins 25 % 65536 - 1 < gI ins 5 := by rw [← e]; exact (cmp_geq_f _ _).mp hc
     rw [idxW, if_neg (by omega)]; exact e)
theorem hFIdx3 : cFIdx3.Holds objs Try.prog := runCtr_holds (X := { cxQi Try.prog with hints := hsFIdx3 }) objsOk mixed noCts (callable _ Try.func78 (by kernel_rfl) (by kernel_rfl)) (by intro ins _ _; rfl) (by rw [rFIdx3]; exact vFIdx3 _ _)
theorem vFIdx4 (P : Program) (hs : List (Nat × Nat × List Nat)) : ∀ ins, ins.length = cFIdx4.nin → cFIdx4.pre ins → tFIdx4.sat { cxQi P with hints := hs } (ctrR cFIdx4) ins := by
 intro ins hl hp
 have hp' : isW (gI ins 25) := hp
 have e := ixw_den hp'
 have ht : ins.take cFIdx4.nin = ins := List.take_of_length_le (Nat.le_of_eq hl)
 have hR : ∀ x, x = idxW (gI ins 5) (gI ins 25) → ctrR cFIdx4 ins [.i x] := by
  intro x hx
  show cFIdx4.may (ins.take cFIdx4.nin) [.i x]
  rw [ht, hx]; rfl
 unfold tFIdx4
 repeat' (first | with_reducible refine st_and ?_ ?_ | with_reducible exact st_ok | with_reducible refine st_br (fun hc => ?_) (fun hc => ?_))
 all_goals refine st_ret rfl (hR _ ?_)
 all_goals first
  | (have hc' : gI ins 5 ≤ gI ins 25 % 65536 - 1 := by rw [← e]; exact (cmp_geq_t _ _).mp hc
     show (-1 : Int) = _
     rw [idxW, if_pos (by omega)])
  | (have hc' : gI ins 25 % 65536 - 1 < gI ins 5 := by rw [← e]; exact (cmp_geq_f _ _).mp hc
     rw [idxW, if_neg (by omega)]; exact e)
theorem hFIdx4 : cFIdx4.Holds objs Try.prog := runCtr_holds (X := { cxQi Try.prog with hints := hsFIdx4 }) objsOk mixed noCts (callable _ Try.func78 (by kernel_rfl) (by kernel_rfl)) (by intro ins _ _; rfl) (by rw [rFIdx4]; exact vFIdx4 _ _)
theorem out_atP (a0 a1 a2 a3 a4 a5 a6 a7 a8 a9 a10 a11 a12 i p : Int) : cAt.out [.i a0, .i a1, .i a2, .i a3, .i a4, .i a5, .i a6, .i a7, .i a8, .i a9, .i a10, .i a11, .i a12, .i i, .i p] = [.i (atT a0 a1 a2 a5 i p)] := rfl
theorem out_atQ (a0 a1 a2 a3 a4 a5 a6 a7 a8 a9 a10 a11 a12 i p : Int) : cRAt.out [.i a0, .i a1, .i a2, .i a3, .i a4, .i a5, .i a6, .i a7, .i a8, .i a9, .i a10, .i a11, .i a12, .i i, .i p] = [.i (atT a0 a1 a2 a5 i p)] := rfl
theorem out_nextP (a0 a1 a2 a3 a4 a5 a6 a7 a8 a9 a10 a11 a12 i l : Int) : cNextP.out [.i a0, .i a1, .i a2, .i a3, .i a4, .i a5, .i a6, .i a7, .i a8, .i a9, .i a10, .i a11, .i a12, .i i, .i l] = [.i (nextT a0 a1 a2 a5 i l)] := rfl
theorem vNextP (P : Program) (hs : List (Nat × Nat × List Nat)) : ∀ ins, ins.length = cNextP.nin → cNextP.pre ins → tNextP.sat { cxQ0 P with hints := hs } (ctrR cNextP) ins := by
 rintro ins _ ⟨a0, a1, a2, a3, a4, a5, a6, a7, a8, a9, a10, a11, a12, i, l, rfl⟩
 have e0 : ∀ x : Int, 0 ≤ x → x < 4 → IntKind.i64.wrap (4 + x) = 4 + x := fun x h0 h1 => wrap_small (by omega) (by omega)
 unfold tNextP
 repeat' (first
  | (first
    | (with_reducible refine st_need ?_ ?_
       focus (simp only [dn, reduceCtorEq, e0, va_map] <;> first | omega | assumption))
    | (with_reducible refine st_and ?_ ?_)
    | (with_reducible exact st_ok)
    | (with_reducible refine st_br (fun hc => ?_) (fun hc => ?_) <;> (simp only [dn, reduceCtorEq, e0, va_map] at hc) <;> (try (exfalso; first | contradiction | omega)))
    | (refine st_call (by rfl) (by simp only [dn, reduceCtorEq, e0, va_map] <;> rfl) ?_ (by simp only [out_atP, out_atQ] <;> rfl) (by simp only [dn] <;> rfl) ?_
       focus (first | exact ⟨_, _, _, _, _, _, _, _, _, _, _, _, _, _, _, rfl⟩)))
  | (refine st_ret (by simp only [dn, reduceCtorEq, e0] <;> rfl) ?_
     show _ = [EV.i (nextT a0 a1 a2 a5 i l)]
     unfold nextT
     first
      | (rw [if_pos (by omega)]; done)
      | (rw [if_neg (by omega), e0 l (by omega) (by omega)]; done))
  | fail "no step")
theorem hNextP : cNextP.Holds objs Try.prog := runCtr_holds (X := { cxQ0 Try.prog with hints := hsNextP }) objsOk mixed (by
 intro ci c h
 match ci, h with
 | 0, h => cases h; exact hAt
 | n + 1, h => cases h) (callable _ Try.func16 (by kernel_rfl) (by kernel_rfl)) (by rintro ins _ ⟨_, _, _, _, _, _, _, _, _, _, _, _, _, _, _, rfl⟩; rfl) (by rw [rNextP]; exact vNextP _ _)
theorem nomore_find {F : FindSt} : ∀ (t : Nat) (T : ObjT U) (ps : List (EV U)), objs[t]? = some T → t ∉ [5, 6, 7, 8, 9, 10, 11, 12, 13, 14] → ps.length = T.nv → T.ok ps → some (EV.u (U.find F)) ≠ some (EV.u (T.obj ps)) :=
 nomore_kind (by show ∀ t, t < 18 → t ∉ [5, 6, 7, 8, 9, 10, 11, 12, 13, 14] → kinds.getD t 0 ≠ 6; decide)
section
variable {k : Tree} {env : List (EV U)} {X : Cx U} {R : List (EV U) → List (EV U) → Prop}
theorem st_opn {i t : Nat} {T : ObjT U} (hT : X.objs[t]? = some T) (hk : ∀ ps, ps.length = T.nv → T.ok ps → env[i]? = some (.u (T.obj ps)) → k.sat X R (env ++ ps)) : (Tree.opn i t k).sat X R env := by
 simp only [Tree.sat, hT]
 exact hk
end
theorem lo0 {a1 a5 : Int} {a0 h : Int} (ht : okT a0 a1 h a5 = true) : ¬ nextT a0 a1 h a5 (-1) 0 < 0 := by
 obtain ⟨h1, h2, h3, h4, h5, h6, h7, h8⟩ := okT_facts ht
 unfold nextT
 rw [if_neg (by omega), atT, if_pos ⟨ht, by omega, by omega, by omega, by omega, by omega⟩, if_pos (by omega)]
 omega
theorem isWd0 : isWd 0 := ⟨by decide, by decide⟩
set_option maxRecDepth 10000
set_option maxHeartbeats 2000000 in
theorem vFNew1 (P : Program) (hs : List (Nat × Nat × List Nat)) : ∀ ins, ins.length = (cFNewH 1).nin → (cFNewH 1).pre ins → tFNew1.sat { cxQn P with hints := hs } (ctrR (cFNewH 1)) ins := by
 rintro ins _ ⟨a0, a1, a2, a3, a4, a5, a6, a7, a8, a9, a10, a11, a12, key, rfl, rfl, ht⟩
 have h0 := lo0 ht
 unfold tFNew1
 repeat' (first
  | (first
    | (with_reducible refine st_need ?_ ?_
       focus (simp only [dn, reduceCtorEq, h0, va_map] <;> first | omega | assumption))
    | (with_reducible refine st_and ?_ ?_)
    | (with_reducible exact st_ok)
    | (with_reducible refine st_br (fun hc => ?_) (fun hc => ?_) <;> (simp only [dn, reduceCtorEq, h0, va_map] at hc) <;> (try (exfalso; first | contradiction | omega)))
    | (refine st_call (by rfl) (by simp only [dn, reduceCtorEq, h0, va_map] <;> rfl) ?_ (by simp only [out_nextP] <;> rfl) (by simp only [dn] <;> rfl) ?_
       focus (first | exact ⟨_, _, _, _, _, _, _, _, _, _, _, _, _, _, _, rfl⟩)))
  | (refine st_rngX (fun L env' he => ?_)
     simp only [dn] at he
     subst he)
  | (refine st_mk (by rfl) (by simp only [dn, reduceCtorEq, va_map] <;> rfl) ?_ (by simp only [dn] <;> rfl) ?_
     focus exact ⟨_, _, _, _, _, _, _, _, _, _, _, _, _, _, _, _, _, _, _, _, _, _, _, rfl, .inl rfl, isWd0, isWd0⟩)
  | (refine st_ret (by simp only [dn, reduceCtorEq, va_map] <;> rfl) ?_
     rfl)
  | fail "no step")
theorem hFNew1 : (cFNewH 1).Holds objs Try.prog := runCtr_holds (X := { cxQn Try.prog with hints := hsFNew1 }) objsOk mixed (by
 intro ci c h
 match ci, h with
 | 0, h => cases h; exact hNextP
 | n + 1, h => cases h) (callable _ Try.func38 (by kernel_rfl) (by kernel_rfl)) (by rintro ins _ ⟨_, _, _, _, _, _, _, _, _, _, _, _, _, _, rfl, _⟩; rfl) (by rw [rFNew1]; exact vFNew1 _ _)
set_option maxHeartbeats 2000000 in
theorem vFNew2 (P : Program) (hs : List (Nat × Nat × List Nat)) : ∀ ins, ins.length = (cFNewH 2).nin → (cFNewH 2).pre ins → tFNew2.sat { cxQn P with hints := hs } (ctrR (cFNewH 2)) ins := by
 rintro ins _ ⟨a0, a1, a2, a3, a4, a5, a6, a7, a8, a9, a10, a11, a12, key, rfl, rfl, ht⟩
 have h0 := lo0 ht
 unfold tFNew2
 repeat' (first
  | (first
    | (with_reducible refine st_need ?_ ?_
       focus (simp only [dn, reduceCtorEq, h0, va_map] <;> first | omega | assumption))
    | (with_reducible refine st_and ?_ ?_)
    | (with_reducible exact st_ok)
    | (with_reducible refine st_br (fun hc => ?_) (fun hc => ?_) <;> (simp only [dn, reduceCtorEq, h0, va_map] at hc) <;> (try (exfalso; first | contradiction | omega)))
    | (refine st_call (by rfl) (by simp only [dn, reduceCtorEq, h0, va_map] <;> rfl) ?_ (by simp only [out_nextP] <;> rfl) (by simp only [dn] <;> rfl) ?_
       focus (first | exact ⟨_, _, _, _, _, _, _, _, _, _, _, _, _, _, _, rfl⟩)))
  | (refine st_rngX (fun L env' he => ?_)
     simp only [dn] at he
     subst he)
  | (refine st_mk (by rfl) (by simp only [dn, reduceCtorEq, va_map] <;> rfl) ?_ (by simp only [dn] <;> rfl) ?_
     focus exact ⟨_, _, _, _, _, _, _, _, _, _, _, _, _, _, _, _, _, _, _, _, _, _, _, _, _, _, _, rfl, .inl rfl, isWd0, isWd0⟩)
  | (refine st_ret (by simp only [dn, reduceCtorEq, va_map] <;> rfl) ?_
     rfl)
  | fail "no step")
theorem hFNew2 : (cFNewH 2).Holds objs Try.prog := runCtr_holds (X := { cxQn Try.prog with hints := hsFNew2 }) objsOk mixed (by
 intro ci c h
 match ci, h with
 | 0, h => cases h; exact hNextP
 | n + 1, h => cases h) (callable _ Try.func38 (by kernel_rfl) (by kernel_rfl)) (by rintro ins _ ⟨_, _, _, _, _, _, _, _, _, _, _, _, _, _, rfl, _⟩; rfl) (by rw [rFNew2]; exact vFNew2 _ _)
set_option maxHeartbeats 2000000 in
theorem vFNew3 (P : Program) (hs : List (Nat × Nat × List Nat)) : ∀ ins, ins.length = (cFNewH 3).nin → (cFNewH 3).pre ins → tFNew3.sat { cxQn P with hints := hs } (ctrR (cFNewH 3)) ins := by
 rintro ins _ ⟨a0, a1, a2, a3, a4, a5, a6, a7, a8, a9, a10, a11, a12, key, rfl, rfl, ht⟩
 have h0 := lo0 ht
 unfold tFNew3
 repeat' (first
  | (first
    | (with_reducible refine st_need ?_ ?_
       focus (simp only [dn, reduceCtorEq, h0, va_map] <;> first | omega | assumption))
    | (with_reducible refine st_and ?_ ?_)
    | (with_reducible exact st_ok)
    | (with_reducible refine st_br (fun hc => ?_) (fun hc => ?_) <;> (simp only [dn, reduceCtorEq, h0, va_map] at hc) <;> (try (exfalso; first | contradiction | omega)))
    | (refine st_call (by rfl) (by simp only [dn, reduceCtorEq, h0, va_map] <;> rfl) ?_ (by simp only [out_nextP] <;> rfl) (by simp only [dn] <;> rfl) ?_
       focus (first | exact ⟨_, _, _, _, _, _, _, _, _, _, _, _, _, _, _, rfl⟩)))
  | (refine st_rngX (fun L env' he => ?_)
     simp only [dn] at he
     subst he)
  | (refine st_mk (by rfl) (by simp only [dn, reduceCtorEq, va_map] <;> rfl) ?_ (by simp only [dn] <;> rfl) ?_
     focus exact ⟨_, _, _, _, _, _, _, _, _, _, _, _, _, _, _, _, _, _, _, _, _, _, _, _, _, _, _, _, _, _, _, rfl, .inl rfl, isWd0, isWd0⟩)
  | (refine st_ret (by simp only [dn, reduceCtorEq, va_map] <;> rfl) ?_
     rfl)
  | fail "no step")
theorem hFNew3 : (cFNewH 3).Holds objs Try.prog := runCtr_holds (X := { cxQn Try.prog with hints := hsFNew3 }) objsOk mixed (by
 intro ci c h
 match ci, h with
 | 0, h => cases h; exact hNextP
 | n + 1, h => cases h) (callable _ Try.func38 (by kernel_rfl) (by kernel_rfl)) (by rintro ins _ ⟨_, _, _, _, _, _, _, _, _, _, _, _, _, _, rfl, _⟩; rfl) (by rw [rFNew3]; exact vFNew3 _ _)
set_option maxHeartbeats 2000000 in
theorem vFNew4 (P : Program) (hs : List (Nat × Nat × List Nat)) : ∀ ins, ins.length = (cFNewH 4).nin → (cFNewH 4).pre ins → tFNew4.sat { cxQn P with hints := hs } (ctrR (cFNewH 4)) ins := by
 rintro ins _ ⟨a0, a1, a2, a3, a4, a5, a6, a7, a8, a9, a10, a11, a12, key, rfl, rfl, ht⟩
 have h0 := lo0 ht
 unfold tFNew4
 repeat' (first
  | (first
    | (with_reducible refine st_need ?_ ?_
       focus (simp only [dn, reduceCtorEq, h0, va_map] <;> first | omega | assumption))
    | (with_reducible refine st_and ?_ ?_)
    | (with_reducible exact st_ok)
    | (with_reducible refine st_br (fun hc => ?_) (fun hc => ?_) <;> (simp only [dn, reduceCtorEq, h0, va_map] at hc) <;> (try (exfalso; first | contradiction | omega)))
    | (refine st_call (by rfl) (by simp only [dn, reduceCtorEq, h0, va_map] <;> rfl) ?_ (by simp only [out_nextP] <;> rfl) (by simp only [dn] <;> rfl) ?_
       focus (first | exact ⟨_, _, _, _, _, _, _, _, _, _, _, _, _, _, _, rfl⟩)))
  | (refine st_rngX (fun L env' he => ?_)
     simp only [dn] at he
     subst he)
  | (refine st_mk (by rfl) (by simp only [dn, reduceCtorEq, va_map] <;> rfl) ?_ (by simp only [dn] <;> rfl) ?_
     focus exact ⟨_, _, _, _, _, _, _, _, _, _, _, _, _, _, _, _, _, _, _, _, _, _, _, _, _, _, _, _, _, _, _, _, _, _, _, rfl, .inl rfl, isWd0, isWd0⟩)
  | (refine st_ret (by simp only [dn, reduceCtorEq, va_map] <;> rfl) ?_
     rfl)
  | fail "no step")
theorem hFNew4 : (cFNewH 4).Holds objs Try.prog := runCtr_holds (X := { cxQn Try.prog with hints := hsFNew4 }) objsOk mixed (by
 intro ci c h
 match ci, h with
 | 0, h => cases h; exact hNextP
 | n + 1, h => cases h) (callable _ Try.func38 (by kernel_rfl) (by kernel_rfl)) (by rintro ins _ ⟨_, _, _, _, _, _, _, _, _, _, _, _, _, _, rfl, _⟩; rfl) (by rw [rFNew4]; exact vFNew4 _ _)
theorem wm {w : Int} (h : isW w) : isW (w % 9223372036854775808) := ⟨by have := h.1; omega, by have := h.1; have := h.2; omega⟩
theorem top_t {n : Int} (h : isW n) (e : n / 9223372036854775808 = 1) : 9223372036854775808 ≤ n := by have := h.1; have := h.2; omega
theorem top_f {n : Int} (h : isW n) (e : ¬ n / 9223372036854775808 = 1) : ¬ 9223372036854775808 ≤ n := by have := h.1; have := h.2; omega
section
variable {a0 a1 a2 a3 a4 a5 a6 a7 a8 a9 a10 a11 a12 key l pred ref cur w r : Int} {P S K : List Int} {M : MemSt}
theorem step_1m (h : 9223372036854775808 ≤ (M.load (nextT a0 a1 a2 a5 pred l)).n) : (FindSt.norm ⟨[a0, a1, a2, a3, a4, a5, a6, a7, a8, a9, a10, a11, a12], key, 1, l, pred, ref, cur, w, P, S, K, r⟩).step M = (⟨[a0, a1, a2, a3, a4, a5, a6, a7, a8, a9, a10, a11, a12], key, 1, a2 - 1, -1, 0, 0, 0, P, S, K, ref⟩, M.load (nextT a0 a1 a2 a5 pred l)) := by
 show (if 9223372036854775808 ≤ (M.load (nextT a0 a1 a2 a5 pred l)).n then _ else _, _) = _
 rw [if_pos h]; rfl
theorem step_1n (h : ¬ 9223372036854775808 ≤ (M.load (nextT a0 a1 a2 a5 pred l)).n) : (FindSt.norm ⟨[a0, a1, a2, a3, a4, a5, a6, a7, a8, a9, a10, a11, a12], key, 1, l, pred, ref, cur, w, P, S, K, r⟩).step M = (FindSt.looks ⟨[a0, a1, a2, a3, a4, a5, a6, a7, a8, a9, a10, a11, a12], key, 1, l, pred, ref, (M.load (nextT a0 a1 a2 a5 pred l)).n, 0, P, S, K, 0⟩ ref, M.load (nextT a0 a1 a2 a5 pred l)) := by
 show (if 9223372036854775808 ≤ (M.load (nextT a0 a1 a2 a5 pred l)).n then _ else _, _) = _
 rw [if_neg h]; rfl
theorem step_2m (h : 9223372036854775808 ≤ (M.load (nextT a0 a1 a2 a5 (idxW a5 cur) l)).n) : (FindSt.norm ⟨[a0, a1, a2, a3, a4, a5, a6, a7, a8, a9, a10, a11, a12], key, 2, l, pred, ref, cur, w, P, S, K, r⟩).step M = (⟨[a0, a1, a2, a3, a4, a5, a6, a7, a8, a9, a10, a11, a12], key, 3, l, pred, ref, cur, (M.load (nextT a0 a1 a2 a5 (idxW a5 cur) l)).n, P, S, K, cur⟩, M.load (nextT a0 a1 a2 a5 (idxW a5 cur) l)) := by
 show (FindSt.mk _ _ (if 9223372036854775808 ≤ (M.load (nextT a0 a1 a2 a5 (idxW a5 cur) l)).n then 3 else 4) _ _ _ _ _ _ _ _ _, _) = _
 rw [if_pos h]; rfl
theorem step_2n (h : ¬ 9223372036854775808 ≤ (M.load (nextT a0 a1 a2 a5 (idxW a5 cur) l)).n) : (FindSt.norm ⟨[a0, a1, a2, a3, a4, a5, a6, a7, a8, a9, a10, a11, a12], key, 2, l, pred, ref, cur, w, P, S, K, r⟩).step M = (⟨[a0, a1, a2, a3, a4, a5, a6, a7, a8, a9, a10, a11, a12], key, 4, l, pred, ref, cur, (M.load (nextT a0 a1 a2 a5 (idxW a5 cur) l)).n, P, S, K, cur⟩, M.load (nextT a0 a1 a2 a5 (idxW a5 cur) l)) := by
 show (FindSt.mk _ _ (if 9223372036854775808 ≤ (M.load (nextT a0 a1 a2 a5 (idxW a5 cur) l)).n then 3 else 4) _ _ _ _ _ _ _ _ _, _) = _
 rw [if_neg h]; rfl
theorem step_3y (h : (M.cas (nextT a0 a1 a2 a5 pred l) cur (w % 9223372036854775808)).h = true) : (FindSt.norm ⟨[a0, a1, a2, a3, a4, a5, a6, a7, a8, a9, a10, a11, a12], key, 3, l, pred, ref, cur, w, P, S, K, r⟩).step M = (FindSt.looks ⟨[a0, a1, a2, a3, a4, a5, a6, a7, a8, a9, a10, a11, a12], key, 1, l, pred, ref, w % 9223372036854775808, 0, P, S, K, 0⟩ ref, M.cas (nextT a0 a1 a2 a5 pred l) cur (w % 9223372036854775808)) := by
 show (if (M.cas (nextT a0 a1 a2 a5 pred l) cur (w % 9223372036854775808)).h = true then _ else _, _) = _
 rw [if_pos h]; rfl
theorem step_3n (h : (M.cas (nextT a0 a1 a2 a5 pred l) cur (w % 9223372036854775808)).h = false) : (FindSt.norm ⟨[a0, a1, a2, a3, a4, a5, a6, a7, a8, a9, a10, a11, a12], key, 3, l, pred, ref, cur, w, P, S, K, r⟩).step M = (⟨[a0, a1, a2, a3, a4, a5, a6, a7, a8, a9, a10, a11, a12], key, 1, a2 - 1, -1, 0, 0, 0, P, S, K, ref⟩, M.cas (nextT a0 a1 a2 a5 pred l) cur (w % 9223372036854775808)) := by
 show (if (M.cas (nextT a0 a1 a2 a5 pred l) cur (w % 9223372036854775808)).h = true then _ else _, _) = _
 rw [if_neg (by rw [h]; decide)]; rfl
theorem step_4y (h : (M.load (atT a0 a1 a2 a5 (idxW a5 cur) 0)).n < key) : (FindSt.norm ⟨[a0, a1, a2, a3, a4, a5, a6, a7, a8, a9, a10, a11, a12], key, 4, l, pred, ref, cur, w, P, S, K, r⟩).step M = (FindSt.looks ⟨[a0, a1, a2, a3, a4, a5, a6, a7, a8, a9, a10, a11, a12], key, 1, l, (idxW a5 cur), cur, w, 0, P, S, K, 0⟩ cur, M.load (atT a0 a1 a2 a5 (idxW a5 cur) 0)) := by
 show (if (M.load (atT a0 a1 a2 a5 (idxW a5 cur) 0)).n < key then _ else _, _) = _
 rw [if_pos h]; rfl
theorem step_4n (h : key ≤ (M.load (atT a0 a1 a2 a5 (idxW a5 cur) 0)).n) : (FindSt.norm ⟨[a0, a1, a2, a3, a4, a5, a6, a7, a8, a9, a10, a11, a12], key, 4, l, pred, ref, cur, w, P, S, K, r⟩).step M = (FindSt.done ⟨[a0, a1, a2, a3, a4, a5, a6, a7, a8, a9, a10, a11, a12], key, 4, l, pred, ref, cur, w, P, S, K, r⟩ cur, M.load (atT a0 a1 a2 a5 (idxW a5 cur) 0)) := by
 show (if (M.load (atT a0 a1 a2 a5 (idxW a5 cur) 0)).n < key then _ else _, _) = _
 rw [if_neg (by omega)]; rfl
theorem step_9 : (FindSt.norm ⟨[a0, a1, a2, a3, a4, a5, a6, a7, a8, a9, a10, a11, a12], key, 9, l, pred, ref, cur, w, P, S, K, r⟩).step M = ((FindSt.norm ⟨[a0, a1, a2, a3, a4, a5, a6, a7, a8, a9, a10, a11, a12], key, 9, l, pred, ref, cur, w, P, S, K, r⟩), M) := rfl
theorem lk_d {r' : Int} (h : idxW a5 cur < 0) : FindSt.looks ⟨[a0, a1, a2, a3, a4, a5, a6, a7, a8, a9, a10, a11, a12], key, 1, l, pred, ref, cur, 0, P, S, K, 0⟩ r' = FindSt.done ⟨[a0, a1, a2, a3, a4, a5, a6, a7, a8, a9, a10, a11, a12], key, 1, l, pred, ref, cur, 0, P, S, K, 0⟩ r' := by
 show (if idxW a5 cur < 0 then _ else _) = _
 rw [if_pos h]
theorem lk_2 {r' : Int} (h : 0 ≤ idxW a5 cur) : FindSt.looks ⟨[a0, a1, a2, a3, a4, a5, a6, a7, a8, a9, a10, a11, a12], key, 1, l, pred, ref, cur, 0, P, S, K, 0⟩ r' = ⟨[a0, a1, a2, a3, a4, a5, a6, a7, a8, a9, a10, a11, a12], key, 2, l, pred, ref, cur, 0, P, S, K, r'⟩ := by
 show (if idxW a5 cur < 0 then _ else _) = _
 rw [if_neg (by omega)]
end
theorem out_fidx1 (x0 x1 x2 x3 x4 x5 x6 x7 x8 x9 x10 x11 x12 x13 x14 x15 x16 x17 x18 x19 x20 x21 x22 x24 x25 x26 x27 x28 x29 : Int) (x23 : Bool) : cFIdx1.out [.i x0, .i x1, .i x2, .i x3, .i x4, .i x5, .i x6, .i x7, .i x8, .i x9, .i x10, .i x11, .i x12, .i x13, .i x14, .i x15, .i x16, .i x17, .i x18, .i x19, .i x20, .i x21, .i x22, .b x23, .i x24, .i x25, .i x26, .i x27, .i x28, .i x29] = [.i (idxW x5 x25)] := rfl
theorem out_fidx2 (x0 x1 x2 x3 x4 x5 x6 x7 x8 x9 x10 x11 x12 x13 x14 x15 x16 x17 x18 x19 x20 x21 x22 x24 x25 x26 x27 x28 x29 x30 x31 x32 x33 : Int) (x23 : Bool) : cFIdx2.out [.i x0, .i x1, .i x2, .i x3, .i x4, .i x5, .i x6, .i x7, .i x8, .i x9, .i x10, .i x11, .i x12, .i x13, .i x14, .i x15, .i x16, .i x17, .i x18, .i x19, .i x20, .i x21, .i x22, .b x23, .i x24, .i x25, .i x26, .i x27, .i x28, .i x29, .i x30, .i x31, .i x32, .i x33] = [.i (idxW x5 x25)] := rfl
theorem out_fidx3 (x0 x1 x2 x3 x4 x5 x6 x7 x8 x9 x10 x11 x12 x13 x14 x15 x16 x17 x18 x19 x20 x21 x22 x24 x25 x26 x27 x28 x29 x30 x31 x32 x33 x34 x35 x36 x37 : Int) (x23 : Bool) : cFIdx3.out [.i x0, .i x1, .i x2, .i x3, .i x4, .i x5, .i x6, .i x7, .i x8, .i x9, .i x10, .i x11, .i x12, .i x13, .i x14, .i x15, .i x16, .i x17, .i x18, .i x19, .i x20, .i x21, .i x22, .b x23, .i x24, .i x25, .i x26, .i x27, .i x28, .i x29, .i x30, .i x31, .i x32, .i x33, .i x34, .i x35, .i x36, .i x37] = [.i (idxW x5 x25)] := rfl
theorem out_fidx4 (x0 x1 x2 x3 x4 x5 x6 x7 x8 x9 x10 x11 x12 x13 x14 x15 x16 x17 x18 x19 x20 x21 x22 x24 x25 x26 x27 x28 x29 x30 x31 x32 x33 x34 x35 x36 x37 x38 x39 x40 x41 : Int) (x23 : Bool) : cFIdx4.out [.i x0, .i x1, .i x2, .i x3, .i x4, .i x5, .i x6, .i x7, .i x8, .i x9, .i x10, .i x11, .i x12, .i x13, .i x14, .i x15, .i x16, .i x17, .i x18, .i x19, .i x20, .i x21, .i x22, .b x23, .i x24, .i x25, .i x26, .i x27, .i x28, .i x29, .i x30, .i x31, .i x32, .i x33, .i x34, .i x35, .i x36, .i x37, .i x38, .i x39, .i x40, .i x41] = [.i (idxW x5 x25)] := rfl
theorem high_of : ∀ (t : Nat) (T : ObjT U), objs[t]? = some T → ∀ ps, T.ok ps → ∀ F, U.find F = T.obj ps → F.a 2 = [0, 0, 0, 0, 0, 1, 2, 2, 3, 3, 3, 4, 4, 4, 4].getD t 0 := by
 refine objs_all ?_ ?_ ?_ ?_ ?_ ?_ ?_ ?_ ?_ ?_ ?_ ?_ ?_ ?_ ?_ ?_ ?_ ?_
 all_goals first
  | (rintro ps ⟨l, s, k, a, o, n, h, N, rfl, _⟩ F e; cases e; done)
  | (rintro ps ⟨_, _, _, _, _, _, _, _, _, _, _, _, _, _, _, _, _, _, _, _, _, _, _, rfl, _⟩ F e; injection e with e; subst e; rfl)
  | (rintro ps ⟨_, _, _, _, _, _, _, _, _, _, _, _, _, _, _, _, _, _, _, _, _, _, _, _, _, _, _, rfl, _⟩ F e; injection e with e; subst e; rfl)
  | (rintro ps ⟨_, _, _, _, _, _, _, _, _, _, _, _, _, _, _, _, _, _, _, _, _, _, _, _, _, _, _, _, _, _, _, rfl, _⟩ F e; injection e with e; subst e; rfl)
  | (rintro ps ⟨_, _, _, _, _, _, _, _, _, _, _, _, _, _, _, _, _, _, _, _, _, _, _, _, _, _, _, _, _, _, _, _, _, _, _, rfl, _⟩ F e; injection e with e; subst e; rfl)
  | (rintro ps ⟨_, _, _, _, _, _, _, _, _, _, _, _, _, _, _, _, _, _, _, _, _, _, _, _, rfl, _⟩ F e; cases e; done)
  | (rintro ps rfl F e; cases e; done)
theorem nomore_high {F : FindSt} {ts : List Nat} (h : ∀ t, 5 ≤ t → t < 15 → t ∉ ts → ¬ F.a 2 = [0, 0, 0, 0, 0, 1, 2, 2, 3, 3, 3, 4, 4, 4, 4].getD t 0) : ∀ (t : Nat) (T : ObjT U) (ps : List (EV U)), objs[t]? = some T → t ∉ ts → ps.length = T.nv → T.ok ps → some (EV.u (U.find F)) ≠ some (EV.u (T.obj ps)) := by
 intro t T ps ht hn hl hok e
 by_cases hm : t ∈ [5, 6, 7, 8, 9, 10, 11, 12, 13, 14]
 · have hm' : 5 ≤ t ∧ t < 15 := by simp at hm; omega
   injection e with e; injection e with e
   exact h t hm'.1 hm'.2 hn (high_of t T ht ps hok F e)
 · exact nomore_find t T ps ht hm hl hok e
end Go.Proofs.Ytbmbiiiacajolaa
