/- Texts of this proof. -/
import Derived.Test.YtdldcofddfkkbaaGreatHkO
import Derived.Test.YtdldcofddfkkbaaGreatBAO
import Derived.Test.YtdldcofddfkkbaaGreatHaTO
import Derived.Test.YtdldcofddfkkbaaGreatBDO
import Derived.Test.YtdldcofddfkkbaaGreatMbO
import Derived.Test.YtdldcofddfkkbaaGreatBEO
namespace Go.Proofs.YtdldcofddfkkbaaGreat
set_option linter.unusedVariables false
set_option linter.unusedSimpArgs false
set_option linter.unusedSectionVars false
open Go Go.RowKit
theorem nomore_ins {I : InsSt} : ∀ (t : Nat) (T : ObjT U) (ps : List (EV U)), objs[t]? = some T → t ∉ [29, 30, 31, 32, 33, 34, 35, 36, 37, 38, 39, 40, 41, 42, 43] → ps.length = T.nv → T.ok ps → some (EV.u (U.ins I)) ≠ some (EV.u (T.obj ps)) :=
 nomore_kind (by show ∀ t, t < 61 → t ∉ [29, 30, 31, 32, 33, 34, 35, 36, 37, 38, 39, 40, 41, 42, 43] → kinds.getD t 0 ≠ 14; decide)
theorem nomore_rins {I : InsSt} : ∀ (t : Nat) (T : ObjT U) (ps : List (EV U)), objs[t]? = some T → t ∉ [45, 46, 47, 48, 49, 50, 51, 52, 53, 54, 55, 56, 57, 58, 59] → ps.length = T.nv → T.ok ps → some (EV.u (U.rins I)) ≠ some (EV.u (T.obj ps)) :=
 nomore_kind (by show ∀ t, t < 61 → t ∉ [45, 46, 47, 48, 49, 50, 51, 52, 53, 54, 55, 56, 57, 58, 59] → kinds.getD t 0 ≠ 16; decide)
theorem out_getRef (w : Int) : cGetRef.out [.i w] = refO w := rfl
theorem out_rgetRef (w : Int) : cRGetRef.out [.i w] = refO w := rfl
theorem out_fnew (a0 a1 a2 a3 a4 a5 a6 a7 a8 a9 a10 a11 a12 k : Int) : cFNew.out [.i a0, .i a1, .i a2, .i a3, .i a4, .i a5, .i a6, .i a7, .i a8, .i a9, .i a10, .i a11, .i a12, .i k] = [.u (.find (.new [a0, a1, a2, a3, a4, a5, a6, a7, a8, a9, a10, a11, a12] k a2))] := rfl
theorem out_qfnew (a0 a1 a2 a3 a4 a5 a6 a7 a8 a9 a10 a11 a12 k : Int) : cQFNew.out [.i a0, .i a1, .i a2, .i a3, .i a4, .i a5, .i a6, .i a7, .i a8, .i a9, .i a10, .i a11, .i a12, .i k] = [.u (.rfind (.new [a0, a1, a2, a3, a4, a5, a6, a7, a8, a9, a10, a11, a12] k a2))] := rfl
theorem okI_mk {n h w s i g : Int} (ht : okT n h w s = true) (h1 : 0 ≤ i) (h2 : i < s) (h3 : 1 ≤ g) (h4 : g ≤ w) : okI n h w s i g := ⟨okT_facts ht, h1, h2, h3, h4⟩
theorem at0 {n h w s : Int} (ht : okT n h w s = true) : ¬ atT n h w s 0 0 < 0 := by
 have hb := okT_facts ht
 rw [at_in hb ⟨by omega, by omega, by omega, by omega, by omega⟩, if_neg (by omega)]; omega
set_option maxRecDepth 10000
theorem vHang (P : Program) (hs : List (Nat × Nat × List Nat)) : ∀ ins, ins.length = cHang.nin → cHang.pre ins → tHang.sat { cxHg P with hints := hs } (ctrR cHang) ins := by
 rintro ins _ ⟨a0, a1, a2, a3, a4, a5, a6, a7, a8, a9, a10, a11, a12, made, is, ref, key, i, high, n, lv, w, by_, err, M, F, rfl, h9, ⟨e1, e2, e3⟩, g1, g2⟩
 have hT := told_9 h9
 have hP := nth_app e1 g1 g2
 have hS := nth_app e2 g1 g2
 have hK := nth_app e3 g1 g2
 unfold tHang
 repeat' (first
  | (first
    | (with_reducible refine st_need ?_ ?_
       focus (simp only [dn, reduceCtorEq, hP, hS, hK, List.length_append, va_map] <;> first | omega | assumption))
    | (with_reducible refine st_and ?_ ?_)
    | (with_reducible exact st_ok)
    | (with_reducible refine st_br (fun hc => ?_) (fun hc => ?_) <;> (simp only [dn, reduceCtorEq, hP, hS, hK, List.length_append, va_map] at hc) <;> (try (exfalso; first | contradiction | omega)))
    | (refine st_call (by rfl) (by simp only [dn, reduceCtorEq, hP, hS, hK, List.length_append, va_map] <;> rfl) ?_ (by simp only [out_nextP, out_cas'] <;> rfl) (by simp only [dn] <;> rfl) ?_
       focus (first | exact ⟨_, _, _, _, _, _, _, _, _, _, _, _, _, _, _, rfl⟩ | exact ⟨_, _, _, _, rfl⟩)))
  | (refine st_callm (by rfl) (by simp only [dn, reduceCtorEq, va_map] <;> rfl) ?_ (fun o env' hm he => ?_)
     focus exact ⟨_, rfl⟩
     obtain ⟨cc, rfl⟩ := hm
     simp only [rowF_e, hT, List.cons_append, List.nil_append] at he
     subst he)
  | (refine st_ret (by simp only [dn, reduceCtorEq, hP, hS, hK, va_map] <;> rfl) ?_
     rfl)
  | fail "no step")
theorem hHang : cHang.Holds objs Tryz.prog := runCtr_holds (X := { cxHg Tryz.prog with hints := hsHang }) objsOk mixed (by
 intro ci c h
 match ci, h with
 | 0, h => cases h; exact hFPreds
 | 1, h => cases h; exact hFSuccs
 | 2, h => cases h; exact hFKnown
 | 3, h => cases h; exact hNextP
 | 4, h => cases h; exact hCAS
 | n + 5, h => cases h) (callable _ Tryz.func274 (by kernel_rfl) (by kernel_rfl)) (by rintro ins _ ⟨_, _, _, _, _, _, _, _, _, _, _, _, _, _, _, _, _, _, _, _, _, _, _, _, _, _, rfl, _⟩; rfl) (by rw [rHang]; exact vHang _ _)
theorem vAnew (P : Program) (hs : List (Nat × Nat × List Nat)) : ∀ ins, ins.length = cAnew.nin → cAnew.pre ins → tAnew.sat { cxHw P with hints := hs } (ctrR cAnew) ins := by
 rintro ins _ ⟨a0, a1, a2, a3, a4, a5, a6, a7, a8, a9, a10, a11, a12, made, is, ref, key, i, high, n, lv, w, by_, err, x, m, rfl, ht⟩
 unfold tAnew
 repeat' (first
  | (first
    | (with_reducible refine st_need ?_ ?_
       focus (simp only [dn, reduceCtorEq, ht, va_map] <;> first | omega | assumption))
    | (with_reducible refine st_and ?_ ?_)
    | (with_reducible exact st_ok)
    | (with_reducible refine st_br (fun hc => ?_) (fun hc => ?_) <;> (simp only [dn, reduceCtorEq, ht, va_map] at hc) <;> (try (exfalso; first | contradiction | omega)))
    | (refine st_call (by rfl) (by simp only [dn, reduceCtorEq, ht, va_map] <;> rfl) ?_ (by simp only [out_fnew] <;> rfl) (by simp only [dn] <;> rfl) ?_
       focus (first | exact ⟨_, _, _, _, _, _, _, _, _, _, _, _, _, _, rfl, ht⟩)))
  | (refine st_ret (by simp only [dn, reduceCtorEq, va_map] <;> rfl) ?_
     rfl)
  | fail "no step")
theorem hAnew : cAnew.Holds objs Tryz.prog := runCtr_holds (X := { cxHw Tryz.prog with hints := hsAnew }) objsOk mixed (by
 intro ci c h
 match ci, h with
 | 0, h => cases h; exact hFNew
 | n + 1, h => cases h) (callable _ Tryz.func106 (by kernel_rfl) (by kernel_rfl)) (by rintro ins _ ⟨_, _, _, _, _, _, _, _, _, _, _, _, _, _, _, _, _, _, _, _, _, _, _, _, _, _, rfl, _⟩; rfl) (by rw [rAnew]; exact vAnew _ _)
set_option maxHeartbeats 1000000 in
theorem vINew (P : Program) (hs : List (Nat × Nat × List Nat)) : ∀ ins, ins.length = cINew.nin → cINew.pre ins → tINew.sat { cxHn P with hints := hs } (ctrR cINew) ins := by
 rintro ins _ ⟨a0, a1, a2, a3, a4, a5, a6, a7, a8, a9, a10, a11, a12, r, k, g, rfl, ht, hw⟩
 have ha := okT_facts ht
 have hat := at0 ht
 cases hr : refOk r <;>
 unfold tINew <;>
 repeat' (first
  | (first
    | (with_reducible refine st_need ?_ ?_
       focus (simp only [dn, reduceCtorEq, hr, ht, va_map, decide_eq_true_eq, decide_eq_false_iff_not] <;> first | omega | assumption))
    | (with_reducible refine st_and ?_ ?_)
    | (with_reducible exact st_ok)
    | (with_reducible refine st_br (fun hc => ?_) (fun hc => ?_) <;> (simp only [dn, reduceCtorEq, hr, ht, va_map, decide_eq_true_eq, decide_eq_false_iff_not] at hc) <;> (try (exfalso; first | contradiction | omega)))
    | (refine st_call (by rfl) (by simp only [dn, reduceCtorEq, hr, ht, va_map, decide_eq_true_eq, decide_eq_false_iff_not] <;> rfl) ?_ (by simp only [out_getRef, out_rgetRef, out_atP, out_DSnd, out_idxQ, out_fnew, out_qfnew, refO, hr, ht, reduceIte, Bool.false_eq_true] <;> rfl) (by simp only [dn] <;> rfl) ?_
       focus (first | exact ⟨_, rfl, hw⟩ | exact ⟨_, _, _, _, _, _, _, _, _, _, _, _, _, _, rfl, hw⟩ | exact ⟨_, _, _, _, _, _, _, _, _, _, _, _, _, rfl⟩ | exact ⟨_, _, _, _, _, _, _, _, _, _, _, _, _, _, _, rfl⟩ | exact ⟨_, _, _, _, _, _, _, _, _, _, _, _, _, _, rfl, ht⟩)))
  | (refine st_mk (by rfl) (by simp only [dn, reduceCtorEq, hr, va_map] <;> rfl) ?_ (by simp only [dn] <;> rfl) ?_
     focus first
      | exact ⟨_, _, _, _, _, _, _, _, _, _, _, _, _, _, _, _, _, rfl, by decide⟩
      | exact ⟨_, _, _, _, _, _, _, _, _, _, _, _, _, _, _, _, _, _, _, _, _, rfl, okI_mk ht (by omega) (by omega) (by omega) (by omega), new_shape (by omega)⟩)
  | (refine st_ret (by simp only [dn, reduceCtorEq, va_map] <;> rfl) ?_
     show _ = [EV.u (U.ins (InsSt.new [a0, a1, a2, a3, a4, a5, a6, a7, a8, a9, a10, a11, a12] r k g a0 a1 a2 a5))]
     first
      | (rw [inew_5 ht hr]; rfl)
      | (rw [inew_3 ht hr (by omega)]; rfl)
      | (rw [inew_0 ht hr (by omega), idx_eq (by omega)]; rfl))
  | fail "no step")
theorem hINew : cINew.Holds objs Tryz.prog := runCtr_holds (X := { cxHn Tryz.prog with hints := hsINew }) objsOk mixed (by
 intro ci c h
 match ci, h with
 | 0, h => cases h; exact hAt
 | 1, h => cases h; exact hGetRef
 | 2, h => cases h; exact hFNew
 | n + 3, h => cases h) (callable _ Tryz.func41 (by kernel_rfl) (by kernel_rfl)) (by rintro ins _ ⟨_, _, _, _, _, _, _, _, _, _, _, _, _, _, _, _, rfl, _⟩; rfl) (by rw [rINew]; exact vINew _ _)
set_option maxHeartbeats 1000000 in
theorem vQINew (P : Program) (hs : List (Nat × Nat × List Nat)) : ∀ ins, ins.length = cQINew.nin → cQINew.pre ins → tQINew.sat { cxHm P with hints := hs } (ctrR cQINew) ins := by
 rintro ins _ ⟨a0, a1, a2, a3, a4, a5, a6, a7, a8, a9, a10, a11, a12, r, k, g, rfl, ht, hw⟩
 have ha := okT_facts ht
 cases hr : refOk r <;>
 unfold tQINew <;>
 repeat' (first
  | (first
    | (with_reducible refine st_need ?_ ?_
       focus (simp only [dn, reduceCtorEq, hr, ht, va_map, decide_eq_true_eq, decide_eq_false_iff_not] <;> first | omega | assumption))
    | (with_reducible refine st_and ?_ ?_)
    | (with_reducible exact st_ok)
    | (with_reducible refine st_br (fun hc => ?_) (fun hc => ?_) <;> (simp only [dn, reduceCtorEq, hr, ht, va_map, decide_eq_true_eq, decide_eq_false_iff_not] at hc) <;> (try (exfalso; first | contradiction | omega)))
    | (refine st_call (by rfl) (by simp only [dn, reduceCtorEq, hr, ht, va_map, decide_eq_true_eq, decide_eq_false_iff_not] <;> rfl) ?_ (by simp only [out_getRef, out_rgetRef, out_atP, out_DSnd, out_idxQ, out_fnew, out_qfnew, refO, hr, ht, reduceIte, Bool.false_eq_true] <;> rfl) (by simp only [dn] <;> rfl) ?_
       focus (first | exact ⟨_, rfl, hw⟩ | exact ⟨_, _, _, _, _, _, _, _, _, _, _, _, _, _, rfl, hw⟩ | exact ⟨_, _, _, _, _, _, _, _, _, _, _, _, _, rfl⟩ | exact ⟨_, _, _, _, _, _, _, _, _, _, _, _, _, _, _, rfl⟩ | exact ⟨_, _, _, _, _, _, _, _, _, _, _, _, _, _, rfl, ht⟩)))
  | (refine st_mk (by rfl) (by simp only [dn, reduceCtorEq, hr, va_map] <;> rfl) ?_ (by simp only [dn] <;> rfl) ?_
     focus first
      | exact ⟨_, rfl, by decide⟩
      | exact ⟨_, _, _, _, _, _, _, _, _, _, _, _, _, _, _, _, _, _, _, _, _, rfl, okI_mk ht (by rw [idx_eq (by omega)]; omega) (by rw [idx_eq (by omega)]; omega) (by omega) (by omega), new_shape (by omega)⟩)
  | (refine st_ret (by simp only [dn, reduceCtorEq, va_map] <;> rfl) ?_
     show _ = [EV.u (U.rins (InsSt.new [a0, a1, a2, a3, a4, a5, a6, a7, a8, a9, a10, a11, a12] r k g a0 a1 a2 a5))]
     first
      | (rw [inew_5 ht hr]; rfl)
      | (rw [inew_3 ht hr (by omega)]; rfl)
      | (rw [inew_0 ht hr (by omega)]; rfl))
  | fail "no step")
theorem hQINew : cQINew.Holds objs Tryz.prog := runCtr_holds (X := { cxHm Tryz.prog with hints := hsQINew }) objsOk mixed (by
 intro ci c h
 match ci, h with
 | 0, h => cases h; exact hDSnd
 | 1, h => cases h; exact hRGetRef
 | 2, h => cases h; exact hIdxQ
 | 3, h => cases h; exact hQFNew
 | n + 4, h => cases h) (callable _ Tryz.func42 (by kernel_rfl) (by kernel_rfl)) (by rintro ins _ ⟨_, _, _, _, _, _, _, _, _, _, _, _, _, _, _, _, rfl, _⟩; rfl) (by rw [rQINew]; exact vQINew _ _)
set_option maxHeartbeats 2000000 in
theorem vIIn (P : Program) (hs : List (Nat × Nat × List Nat)) : ∀ ins, ins.length = cIIn.nin → cIIn.pre ins → tIIn.sat { cxHo P with hints := hs } (ctrR cIIn) ins := by
 rintro ins _ ⟨I, rfl⟩
 unfold tIIn
 refine st_and (st_opn (T := ins1) (by rfl) ?_) (st_and (st_opn (T := ins2) (by rfl) ?_) (st_and (st_opn (T := ins3) (by rfl) ?_) (st_and (st_opn (T := ins4) (by rfl) ?_) (st_and (st_opn (T := ins5) (by rfl) ?_) (st_and (st_opn (T := ins6) (by rfl) ?_) (st_and (st_opn (T := ins7) (by rfl) ?_) (st_and (st_opn (T := ins8) (by rfl) ?_) (st_and (st_opn (T := ins9) (by rfl) ?_) (st_and (st_opn (T := ins10) (by rfl) ?_) (st_and (st_opn (T := ins11) (by rfl) ?_) (st_and (st_opn (T := ins12) (by rfl) ?_) (st_and (st_opn (T := insR) (by rfl) ?_) (st_and (st_opn (T := insE) (by rfl) ?_) (st_and (st_opn (T := insG) (by rfl) ?_) (nomore_ins)))))))))))))))
 all_goals
  first | rintro ps hl ⟨_, _, _, _, _, _, _, _, _, _, _, _, _, _, _, _, _, _, _, _, _, rfl, hk⟩ he | rintro ps hl ⟨_, _, _, _, _, _, _, _, _, _, _, _, _, _, _, _, _, _, _, _, _, _, rfl, hk⟩ he | rintro ps hl ⟨_, _, _, _, _, _, _, _, _, _, _, _, _, _, _, _, _, _, _, _, rfl, hk⟩ he | rintro ps hl ⟨_, _, _, _, _, _, _, _, _, _, _, _, _, _, _, _, _, rfl, hk⟩ he
  simp only [List.getElem?_cons_zero, ins1, ins1Obj, ins2, ins2Obj, ins3, ins3Obj, ins4, ins4Obj, ins5, ins5Obj, ins6, ins6Obj, ins7, ins7Obj, ins8, ins8Obj, ins9, ins9Obj, ins10, ins10Obj, ins11, ins11Obj, ins12, ins12Obj, insR, insRObj, insE, insEObj, insG, insGObj, Option.some.injEq, EV.u.injEq, U.ins.injEq] at he
  subst he
  simp only [List.cons_append, List.nil_append]
  refine st_mk (by rfl) (by simp only [dn, reduceCtorEq, va_map] <;> rfl) ?_ (by simp only [dn] <;> rfl) ?_
  focus first | exact ⟨_, _, _, _, _, _, _, _, _, _, _, _, _, _, _, _, _, _, _, _, _, rfl, hk⟩ | exact ⟨_, _, _, _, _, _, _, _, _, _, _, _, _, _, _, _, _, _, _, _, _, _, rfl, hk⟩ | exact ⟨_, _, _, _, _, _, _, _, _, _, _, _, _, _, _, _, _, _, _, _, rfl, hk⟩ | exact ⟨_, _, _, _, _, _, _, _, _, _, _, _, _, _, _, _, _, rfl, hk⟩ | exact ⟨_, rfl, hk⟩
  refine st_ret (by simp only [dn, reduceCtorEq, va_map] <;> rfl) ?_
  rfl
theorem hIIn : cIIn.Holds objs Tryz.prog := runCtr_holds (X := { cxHo Tryz.prog with hints := hsIIn }) objsOk mixed noCts (callable _ Tryz.func45 (by kernel_rfl) (by kernel_rfl)) (by rintro ins _ ⟨_, rfl⟩; rfl) (by rw [rIIn]; exact vIIn _ _)
set_option maxHeartbeats 2000000 in
theorem vIBy (P : Program) (hs : List (Nat × Nat × List Nat)) : ∀ ins, ins.length = cIBy.nin → cIBy.pre ins → tIBy.sat { cxHo P with hints := hs } (ctrR cIBy) ins := by
 rintro ins _ ⟨I, rfl⟩
 unfold tIBy
 refine st_and (st_opn (T := ins1) (by rfl) ?_) (st_and (st_opn (T := ins2) (by rfl) ?_) (st_and (st_opn (T := ins3) (by rfl) ?_) (st_and (st_opn (T := ins4) (by rfl) ?_) (st_and (st_opn (T := ins5) (by rfl) ?_) (st_and (st_opn (T := ins6) (by rfl) ?_) (st_and (st_opn (T := ins7) (by rfl) ?_) (st_and (st_opn (T := ins8) (by rfl) ?_) (st_and (st_opn (T := ins9) (by rfl) ?_) (st_and (st_opn (T := ins10) (by rfl) ?_) (st_and (st_opn (T := ins11) (by rfl) ?_) (st_and (st_opn (T := ins12) (by rfl) ?_) (st_and (st_opn (T := insR) (by rfl) ?_) (st_and (st_opn (T := insE) (by rfl) ?_) (st_and (st_opn (T := insG) (by rfl) ?_) (nomore_ins)))))))))))))))
 all_goals
  first | rintro ps hl ⟨_, _, _, _, _, _, _, _, _, _, _, _, _, _, _, _, _, _, _, _, _, rfl, hk⟩ he | rintro ps hl ⟨_, _, _, _, _, _, _, _, _, _, _, _, _, _, _, _, _, _, _, _, _, _, rfl, hk⟩ he | rintro ps hl ⟨_, _, _, _, _, _, _, _, _, _, _, _, _, _, _, _, _, _, _, _, rfl, hk⟩ he | rintro ps hl ⟨_, _, _, _, _, _, _, _, _, _, _, _, _, _, _, _, _, rfl, hk⟩ he
  simp only [List.getElem?_cons_zero, ins1, ins1Obj, ins2, ins2Obj, ins3, ins3Obj, ins4, ins4Obj, ins5, ins5Obj, ins6, ins6Obj, ins7, ins7Obj, ins8, ins8Obj, ins9, ins9Obj, ins10, ins10Obj, ins11, ins11Obj, ins12, ins12Obj, insR, insRObj, insE, insEObj, insG, insGObj, Option.some.injEq, EV.u.injEq, U.ins.injEq] at he
  subst he
  simp only [List.cons_append, List.nil_append]
  refine st_mk (by rfl) (by simp only [dn, reduceCtorEq, va_map] <;> rfl) ?_ (by simp only [dn] <;> rfl) ?_
  focus first | exact ⟨_, _, _, _, _, _, _, _, _, _, _, _, _, _, _, _, _, _, _, _, _, rfl, hk⟩ | exact ⟨_, _, _, _, _, _, _, _, _, _, _, _, _, _, _, _, _, _, _, _, _, _, rfl, hk⟩ | exact ⟨_, _, _, _, _, _, _, _, _, _, _, _, _, _, _, _, _, _, _, _, rfl, hk⟩ | exact ⟨_, _, _, _, _, _, _, _, _, _, _, _, _, _, _, _, _, rfl, hk⟩ | exact ⟨_, rfl, hk⟩
  refine st_ret (by simp only [dn, reduceCtorEq, va_map] <;> rfl) ?_
  rfl
theorem hIBy : cIBy.Holds objs Tryz.prog := runCtr_holds (X := { cxHo Tryz.prog with hints := hsIBy }) objsOk mixed noCts (callable _ Tryz.func51 (by kernel_rfl) (by kernel_rfl)) (by rintro ins _ ⟨_, rfl⟩; rfl) (by rw [rIBy]; exact vIBy _ _)
set_option maxHeartbeats 2000000 in
theorem vIErr (P : Program) (hs : List (Nat × Nat × List Nat)) : ∀ ins, ins.length = cIErr.nin → cIErr.pre ins → tIErr.sat { cxHo P with hints := hs } (ctrR cIErr) ins := by
 rintro ins _ ⟨I, rfl⟩
 unfold tIErr
 refine st_and (st_opn (T := ins1) (by rfl) ?_) (st_and (st_opn (T := ins2) (by rfl) ?_) (st_and (st_opn (T := ins3) (by rfl) ?_) (st_and (st_opn (T := ins4) (by rfl) ?_) (st_and (st_opn (T := ins5) (by rfl) ?_) (st_and (st_opn (T := ins6) (by rfl) ?_) (st_and (st_opn (T := ins7) (by rfl) ?_) (st_and (st_opn (T := ins8) (by rfl) ?_) (st_and (st_opn (T := ins9) (by rfl) ?_) (st_and (st_opn (T := ins10) (by rfl) ?_) (st_and (st_opn (T := ins11) (by rfl) ?_) (st_and (st_opn (T := ins12) (by rfl) ?_) (st_and (st_opn (T := insR) (by rfl) ?_) (st_and (st_opn (T := insE) (by rfl) ?_) (st_and (st_opn (T := insG) (by rfl) ?_) (nomore_ins)))))))))))))))
 all_goals
  first | rintro ps hl ⟨_, _, _, _, _, _, _, _, _, _, _, _, _, _, _, _, _, _, _, _, _, rfl, hk⟩ he | rintro ps hl ⟨_, _, _, _, _, _, _, _, _, _, _, _, _, _, _, _, _, _, _, _, _, _, rfl, hk⟩ he | rintro ps hl ⟨_, _, _, _, _, _, _, _, _, _, _, _, _, _, _, _, _, _, _, _, rfl, hk⟩ he | rintro ps hl ⟨_, _, _, _, _, _, _, _, _, _, _, _, _, _, _, _, _, rfl, hk⟩ he
  simp only [List.getElem?_cons_zero, ins1, ins1Obj, ins2, ins2Obj, ins3, ins3Obj, ins4, ins4Obj, ins5, ins5Obj, ins6, ins6Obj, ins7, ins7Obj, ins8, ins8Obj, ins9, ins9Obj, ins10, ins10Obj, ins11, ins11Obj, ins12, ins12Obj, insR, insRObj, insE, insEObj, insG, insGObj, Option.some.injEq, EV.u.injEq, U.ins.injEq] at he
  subst he
  simp only [List.cons_append, List.nil_append]
  refine st_mk (by rfl) (by simp only [dn, reduceCtorEq, va_map] <;> rfl) ?_ (by simp only [dn] <;> rfl) ?_
  focus first | exact ⟨_, _, _, _, _, _, _, _, _, _, _, _, _, _, _, _, _, _, _, _, _, rfl, hk⟩ | exact ⟨_, _, _, _, _, _, _, _, _, _, _, _, _, _, _, _, _, _, _, _, _, _, rfl, hk⟩ | exact ⟨_, _, _, _, _, _, _, _, _, _, _, _, _, _, _, _, _, _, _, _, rfl, hk⟩ | exact ⟨_, _, _, _, _, _, _, _, _, _, _, _, _, _, _, _, _, rfl, hk⟩ | exact ⟨_, rfl, hk⟩
  refine st_ret (by simp only [dn, reduceCtorEq, va_map] <;> rfl) ?_
  rfl
theorem hIErr : cIErr.Holds objs Tryz.prog := runCtr_holds (X := { cxHo Tryz.prog with hints := hsIErr }) objsOk mixed noCts (callable _ Tryz.func43 (by kernel_rfl) (by kernel_rfl)) (by rintro ins _ ⟨_, rfl⟩; rfl) (by rw [rIErr]; exact vIErr _ _)
set_option maxHeartbeats 2000000 in
theorem vQIIn (P : Program) (hs : List (Nat × Nat × List Nat)) : ∀ ins, ins.length = cQIIn.nin → cQIIn.pre ins → tQIIn.sat { cxHo P with hints := hs } (ctrR cQIIn) ins := by
 rintro ins _ ⟨I, rfl⟩
 unfold tQIIn
 refine st_and (st_opn (T := rins1) (by rfl) ?_) (st_and (st_opn (T := rins2) (by rfl) ?_) (st_and (st_opn (T := rins3) (by rfl) ?_) (st_and (st_opn (T := rins4) (by rfl) ?_) (st_and (st_opn (T := rins5) (by rfl) ?_) (st_and (st_opn (T := rins6) (by rfl) ?_) (st_and (st_opn (T := rins7) (by rfl) ?_) (st_and (st_opn (T := rins8) (by rfl) ?_) (st_and (st_opn (T := rins9) (by rfl) ?_) (st_and (st_opn (T := rins10) (by rfl) ?_) (st_and (st_opn (T := rins11) (by rfl) ?_) (st_and (st_opn (T := rins12) (by rfl) ?_) (st_and (st_opn (T := rinsR) (by rfl) ?_) (st_and (st_opn (T := rinsE) (by rfl) ?_) (st_and (st_opn (T := rinsG) (by rfl) ?_) (nomore_rins)))))))))))))))
 all_goals
  first | rintro ps hl ⟨_, _, _, _, _, _, _, _, _, _, _, _, _, _, _, _, _, _, _, _, _, rfl, hk⟩ he | rintro ps hl ⟨_, _, _, _, _, _, _, _, _, _, _, _, _, _, _, _, _, _, _, _, _, _, rfl, hk⟩ he | rintro ps hl ⟨_, rfl, hk⟩ he
  simp only [List.getElem?_cons_zero, rins1, rins1Obj, rins2, rins2Obj, rins3, rins3Obj, rins4, rins4Obj, rins5, rins5Obj, rins6, rins6Obj, rins7, rins7Obj, rins8, rins8Obj, rins9, rins9Obj, rins10, rins10Obj, rins11, rins11Obj, rins12, rins12Obj, rinsR, rinsRObj, rinsE, rinsEObj, rinsG, rinsGObj, Option.some.injEq, EV.u.injEq, U.rins.injEq] at he
  subst he
  simp only [List.cons_append, List.nil_append]
  refine st_mk (by rfl) (by simp only [dn, reduceCtorEq, va_map] <;> rfl) ?_ (by simp only [dn] <;> rfl) ?_
  focus first | exact ⟨_, _, _, _, _, _, _, _, _, _, _, _, _, _, _, _, _, _, _, _, _, rfl, hk⟩ | exact ⟨_, _, _, _, _, _, _, _, _, _, _, _, _, _, _, _, _, _, _, _, _, _, rfl, hk⟩ | exact ⟨_, _, _, _, _, _, _, _, _, _, _, _, _, _, _, _, _, _, _, _, rfl, hk⟩ | exact ⟨_, _, _, _, _, _, _, _, _, _, _, _, _, _, _, _, _, rfl, hk⟩ | exact ⟨_, rfl, hk⟩
  refine st_ret (by simp only [dn, reduceCtorEq, va_map] <;> rfl) ?_
  rfl
theorem hQIIn : cQIIn.Holds objs Tryz.prog := runCtr_holds (X := { cxHo Tryz.prog with hints := hsQIIn }) objsOk mixed noCts (callable _ Tryz.func127 (by kernel_rfl) (by kernel_rfl)) (by rintro ins _ ⟨_, rfl⟩; rfl) (by rw [rQIIn]; exact vQIIn _ _)
set_option maxHeartbeats 2000000 in
theorem vQIBy (P : Program) (hs : List (Nat × Nat × List Nat)) : ∀ ins, ins.length = cQIBy.nin → cQIBy.pre ins → tQIBy.sat { cxHo P with hints := hs } (ctrR cQIBy) ins := by
 rintro ins _ ⟨I, rfl⟩
 unfold tQIBy
 refine st_and (st_opn (T := rins1) (by rfl) ?_) (st_and (st_opn (T := rins2) (by rfl) ?_) (st_and (st_opn (T := rins3) (by rfl) ?_) (st_and (st_opn (T := rins4) (by rfl) ?_) (st_and (st_opn (T := rins5) (by rfl) ?_) (st_and (st_opn (T := rins6) (by rfl) ?_) (st_and (st_opn (T := rins7) (by rfl) ?_) (st_and (st_opn (T := rins8) (by rfl) ?_) (st_and (st_opn (T := rins9) (by rfl) ?_) (st_and (st_opn (T := rins10) (by rfl) ?_) (st_and (st_opn (T := rins11) (by rfl) ?_) (st_and (st_opn (T := rins12) (by rfl) ?_) (st_and (st_opn (T := rinsR) (by rfl) ?_) (st_and (st_opn (T := rinsE) (by rfl) ?_) (st_and (st_opn (T := rinsG) (by rfl) ?_) (nomore_rins)))))))))))))))
 all_goals
  first | rintro ps hl ⟨_, _, _, _, _, _, _, _, _, _, _, _, _, _, _, _, _, _, _, _, _, rfl, hk⟩ he | rintro ps hl ⟨_, _, _, _, _, _, _, _, _, _, _, _, _, _, _, _, _, _, _, _, _, _, rfl, hk⟩ he | rintro ps hl ⟨_, rfl, hk⟩ he
  simp only [List.getElem?_cons_zero, rins1, rins1Obj, rins2, rins2Obj, rins3, rins3Obj, rins4, rins4Obj, rins5, rins5Obj, rins6, rins6Obj, rins7, rins7Obj, rins8, rins8Obj, rins9, rins9Obj, rins10, rins10Obj, rins11, rins11Obj, rins12, rins12Obj, rinsR, rinsRObj, rinsE, rinsEObj, rinsG, rinsGObj, Option.some.injEq, EV.u.injEq, U.rins.injEq] at he
  subst he
  simp only [List.cons_append, List.nil_append]
  refine st_mk (by rfl) (by simp only [dn, reduceCtorEq, va_map] <;> rfl) ?_ (by simp only [dn] <;> rfl) ?_
  focus first | exact ⟨_, _, _, _, _, _, _, _, _, _, _, _, _, _, _, _, _, _, _, _, _, rfl, hk⟩ | exact ⟨_, _, _, _, _, _, _, _, _, _, _, _, _, _, _, _, _, _, _, _, _, _, rfl, hk⟩ | exact ⟨_, _, _, _, _, _, _, _, _, _, _, _, _, _, _, _, _, _, _, _, rfl, hk⟩ | exact ⟨_, _, _, _, _, _, _, _, _, _, _, _, _, _, _, _, _, rfl, hk⟩ | exact ⟨_, rfl, hk⟩
  refine st_ret (by simp only [dn, reduceCtorEq, va_map] <;> rfl) ?_
  rfl
theorem hQIBy : cQIBy.Holds objs Tryz.prog := runCtr_holds (X := { cxHo Tryz.prog with hints := hsQIBy }) objsOk mixed noCts (callable _ Tryz.func128 (by kernel_rfl) (by kernel_rfl)) (by rintro ins _ ⟨_, rfl⟩; rfl) (by rw [rQIBy]; exact vQIBy _ _)
set_option maxHeartbeats 2000000 in
theorem vQIErr (P : Program) (hs : List (Nat × Nat × List Nat)) : ∀ ins, ins.length = cQIErr.nin → cQIErr.pre ins → tQIErr.sat { cxHo P with hints := hs } (ctrR cQIErr) ins := by
 rintro ins _ ⟨I, rfl⟩
 unfold tQIErr
 refine st_and (st_opn (T := rins1) (by rfl) ?_) (st_and (st_opn (T := rins2) (by rfl) ?_) (st_and (st_opn (T := rins3) (by rfl) ?_) (st_and (st_opn (T := rins4) (by rfl) ?_) (st_and (st_opn (T := rins5) (by rfl) ?_) (st_and (st_opn (T := rins6) (by rfl) ?_) (st_and (st_opn (T := rins7) (by rfl) ?_) (st_and (st_opn (T := rins8) (by rfl) ?_) (st_and (st_opn (T := rins9) (by rfl) ?_) (st_and (st_opn (T := rins10) (by rfl) ?_) (st_and (st_opn (T := rins11) (by rfl) ?_) (st_and (st_opn (T := rins12) (by rfl) ?_) (st_and (st_opn (T := rinsR) (by rfl) ?_) (st_and (st_opn (T := rinsE) (by rfl) ?_) (st_and (st_opn (T := rinsG) (by rfl) ?_) (nomore_rins)))))))))))))))
 all_goals
  first | rintro ps hl ⟨_, _, _, _, _, _, _, _, _, _, _, _, _, _, _, _, _, _, _, _, _, rfl, hk⟩ he | rintro ps hl ⟨_, _, _, _, _, _, _, _, _, _, _, _, _, _, _, _, _, _, _, _, _, _, rfl, hk⟩ he | rintro ps hl ⟨_, rfl, hk⟩ he
  simp only [List.getElem?_cons_zero, rins1, rins1Obj, rins2, rins2Obj, rins3, rins3Obj, rins4, rins4Obj, rins5, rins5Obj, rins6, rins6Obj, rins7, rins7Obj, rins8, rins8Obj, rins9, rins9Obj, rins10, rins10Obj, rins11, rins11Obj, rins12, rins12Obj, rinsR, rinsRObj, rinsE, rinsEObj, rinsG, rinsGObj, Option.some.injEq, EV.u.injEq, U.rins.injEq] at he
  subst he
  simp only [List.cons_append, List.nil_append]
  refine st_mk (by rfl) (by simp only [dn, reduceCtorEq, va_map] <;> rfl) ?_ (by simp only [dn] <;> rfl) ?_
  focus first | exact ⟨_, _, _, _, _, _, _, _, _, _, _, _, _, _, _, _, _, _, _, _, _, rfl, hk⟩ | exact ⟨_, _, _, _, _, _, _, _, _, _, _, _, _, _, _, _, _, _, _, _, _, _, rfl, hk⟩ | exact ⟨_, _, _, _, _, _, _, _, _, _, _, _, _, _, _, _, _, _, _, _, rfl, hk⟩ | exact ⟨_, _, _, _, _, _, _, _, _, _, _, _, _, _, _, _, _, rfl, hk⟩ | exact ⟨_, rfl, hk⟩
  refine st_ret (by simp only [dn, reduceCtorEq, va_map] <;> rfl) ?_
  rfl
theorem hQIErr : cQIErr.Holds objs Tryz.prog := runCtr_holds (X := { cxHo Tryz.prog with hints := hsQIErr }) objsOk mixed noCts (callable _ Tryz.func44 (by kernel_rfl) (by kernel_rfl)) (by rintro ins _ ⟨_, rfl⟩; rfl) (by rw [rQIErr]; exact vQIErr _ _)
theorem out_iin (I : InsSt) : cIIn.out [.u (.ins I)] = [.u (.ins I), .b I.is] := rfl
theorem out_qiin (I : InsSt) : cQIIn.out [.u (.rins I)] = [.u (.rins I), .b I.is] := rfl
theorem out_iby (I : InsSt) : cIBy.out [.u (.ins I)] = [.u (.ins I), .i I.r] := rfl
theorem out_qiby (I : InsSt) : cQIBy.out [.u (.rins I)] = [.u (.rins I), .i I.r] := rfl
theorem out_ierr (I : InsSt) : cIErr.out [.u (.ins I)] = [.u (.ins I), .i I.told] := rfl
theorem out_qierr (I : InsSt) : cQIErr.out [.u (.rins I)] = [.u (.rins I), .i I.told] := rfl
theorem vIAlike (P : Program) (hs : List (Nat × Nat × List Nat)) : ∀ ins, ins.length = cIAlike.nin → cIAlike.pre ins → tIAlike.sat { cxHa P with hints := hs } (ctrR cIAlike) ins := by
 rintro ins _ (⟨I, rfl⟩ | rfl)
 · cases hb : I.is <;>
   unfold tIAlike <;>
   repeat' (first
    | (first
      | (with_reducible refine st_need ?_ ?_
         focus (simp only [dn, reduceCtorEq, cmp_self, hb, va_map] <;> first | omega | assumption))
      | (with_reducible refine st_and ?_ ?_)
      | (with_reducible exact st_ok)
      | (with_reducible refine st_br (fun hc => ?_) (fun hc => ?_) <;> (simp only [dn, reduceCtorEq, cmp_self, hb, va_map] at hc) <;> (try (exfalso; first | contradiction | omega)))
      | (refine st_call (by rfl) (by simp only [dn, reduceCtorEq, cmp_self, hb, va_map] <;> rfl) ?_ (by simp only [out_iin, out_qiin, out_iby, out_qiby, out_ierr, out_qierr, hb] <;> rfl) (by simp only [dn] <;> rfl) ?_
         focus (first | exact ⟨_, rfl⟩)))
    | (refine st_ret (by simp only [dn, reduceCtorEq, cmp_self, va_map] <;> rfl) ?_
       rfl)
    | fail "no step")
 · unfold tIAlike
   repeat' (first
    | (first
      | (with_reducible refine st_need ?_ ?_
         focus (simp only [dn, reduceCtorEq, cmp_self, va_map] <;> first | omega | assumption))
      | (with_reducible refine st_and ?_ ?_)
      | (with_reducible exact st_ok)
      | (with_reducible refine st_br (fun hc => ?_) (fun hc => ?_) <;> (simp only [dn, reduceCtorEq, cmp_self, va_map] at hc) <;> (try (exfalso; first | contradiction | omega)))
      | (refine st_call (by rfl) (by simp only [dn, reduceCtorEq, cmp_self, va_map] <;> rfl) ?_ (by rfl <;> rfl) (by simp only [dn] <;> rfl) ?_
         focus (first | exact ⟨_, rfl⟩)))
    | (refine st_ret (by simp only [dn, reduceCtorEq, va_map] <;> rfl) ?_
       rfl)
    | fail "no step")
theorem hIAlike : cIAlike.Holds objs Tryz.prog := runCtr_holds (X := { cxHa Tryz.prog with hints := hsIAlike }) objsOk mixed (by
 intro ci c h
 match ci, h with
 | 0, h => cases h; exact hIIn
 | 1, h => cases h; exact hQIIn
 | 2, h => cases h; exact hIBy
 | 3, h => cases h; exact hQIBy
 | 4, h => cases h; exact hIErr
 | 5, h => cases h; exact hQIErr
 | n + 6, h => cases h) (callable _ Tryz.func59 (by kernel_rfl) (by kernel_rfl)) (by rintro ins _ (⟨_, rfl⟩ | rfl) <;> rfl) (by rw [rIAlike]; exact vIAlike _ _)
end Go.Proofs.YtdldcofddfkkbaaGreat
