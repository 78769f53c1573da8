/- Texts of this proof. -/
import Derived.Test.YtdldcofddfkkbaaGreatHaVO
import Derived.Test.YtdldcofddfkkbaaGreatHbTO
import Derived.Test.YtdldcofddfkkbaaGreatBFO
import Derived.Test.YtdldcofddfkkbaaGreatBGO
import Derived.Test.YtdldcofddfkkbaaGreatHcTO
namespace Go.Proofs.YtdldcofddfkkbaaGreat
set_option linter.unusedVariables false
set_option linter.unusedSimpArgs false
set_option linter.unusedSectionVars false
open Go Go.RowKit
theorem hFStep : cFStep.Holds objs Tryz.prog := by
 refine ⟨hFStep1.1, ?_, ?_⟩
 · rintro ins outs _ ⟨F, M, rfl, _⟩ h3
   have h3' : outs = _ := h3
   rw [h3']; rfl
 · rintro ins ρ w vals F hl ⟨G, M, rfl, hM⟩ ha hs
   by_cases h1 : G.a 2 = 1
   · exact hFStep1.2.2 _ ρ w vals F hl ⟨G, M, rfl, hM, h1⟩ ha hs
   · by_cases h2 : G.a 2 = 2
     · exact hFStep2.2.2 _ ρ w vals F hl ⟨G, M, rfl, hM, h2⟩ ha hs
     · by_cases h3 : G.a 2 = 3
       · exact hFStep3.2.2 _ ρ w vals F hl ⟨G, M, rfl, hM, h3⟩ ha hs
       · exact hFStep4.2.2 _ ρ w vals F hl ⟨G, M, rfl, hM, h1, h2, h3⟩ ha hs
theorem out_fstep (F : FindSt) (M : MemSt) : cFStep.out [.u (.find F), .u (.mem M)] = [.u (.find (F.step M).1), .u (.mem (F.step M).2), .b ((F.step M).1.line == 9)] := rfl
theorem out_qfstep (F : FindSt) (M : MemSt) : cQFStep.out [.u (.rfind F), .u (.rmem M)] = [.u (.rfind (F.step M).1), .u (.rmem (F.step M).2), .b ((F.step M).1.line == 9)] := rfl
theorem out_qadd (M : MemSt) (x y : Int) : cQAdd.out [.u (.rmem M), .i x, .i y] = [.u (.rmem (M.add x y)), .i (M.add x y).n] := rfl
theorem out_rnew (t ls s g wo lm ea ep ec tp i : Int) : cRNew.out [.i t, .i ls, .i s, .i g, .i wo, .i lm, .i ea, .i ep, .i ec, .i tp, .i i] = [.u (.ret (.new [t, ls, s, g, wo, lm, ea, ep, ec, tp] s i))] := rfl
theorem out_qrnew (t ls s g wo lm ea ep ec tp i : Int) : cQRNew.out [.i t, .i ls, .i s, .i g, .i wo, .i lm, .i ea, .i ep, .i ec, .i tp, .i i] = [.u (.rret (.new [t, ls, s, g, wo, lm, ea, ep, ec, tp] s i))] := rfl
theorem out_rstep (R : RetSt) (M : MemSt) : cRStep.out [.u (.ret R), .u (.mem M)] = [.u (.ret (R.step M).1), .u (.mem (R.step M).2), .b ((R.step M).1.line == 9)] := rfl
theorem out_qrstep (R : RetSt) (M : MemSt) : cQRStep.out [.u (.rret R), .u (.rmem M)] = [.u (.rret (R.step M).1), .u (.rmem (R.step M).2), .b ((R.step M).1.line == 9)] := rfl
theorem out_hang (a0 a1 a2 a3 a4 a5 a6 a7 a8 a9 a10 a11 a12 : Int) (made is : Bool) (ref key i high n lv w by_ err : Int) (M : MemSt) (F : FindSt) : cHang.out [.i a0, .i a1, .i a2, .i a3, .i a4, .i a5, .i a6, .i a7, .i a8, .i a9, .i a10, .i a11, .i a12, .b made, .b is, .i ref, .i key, .i i, .i high, .i n, .i lv, .i w, .i by_, .i err, .u (.mem M), .u (.find F)] = [.i (F.K[lv.toNat]?.getD 0), .u (.mem (M.cas (nextT a0 a1 a2 a5 (F.P[lv.toNat]?.getD 0) lv) (F.S[lv.toNat]?.getD 0) ref)), .u (.find F), .b (M.cas (nextT a0 a1 a2 a5 (F.P[lv.toNat]?.getD 0) lv) (F.S[lv.toNat]?.getD 0) ref).h] := rfl
theorem out_anew (a0 a1 a2 a3 a4 a5 a6 a7 a8 a9 a10 a11 a12 : Int) (made is : Bool) (ref key i high n lv w by_ err : Int) (x : EV U) (m : Int) : cAnew.out [.i a0, .i a1, .i a2, .i a3, .i a4, .i a5, .i a6, .i a7, .i a8, .i a9, .i a10, .i a11, .i a12, .b made, .b is, .i ref, .i key, .i i, .i high, .i n, .i lv, .i w, .i by_, .i err, x, .i m] = [.u (.find (FindSt.new [a0, a1, a2, a3, a4, a5, a6, a7, a8, a9, a10, a11, a12] key a2))] := rfl
theorem hctsHs : ∀ (ci : Nat) (c : Ctr U), ctsHs[ci]? = some c → c.Holds objs Tryz.prog := by
 intro ci c h
 match ci, h with
 | 0, h => cases h; exact hFNew
 | 1, h => cases h; exact hFStep
 | 2, h => cases h; exact hFBy
 | 3, h => cases h; exact hFPreds
 | 4, h => cases h; exact hFSuccs
 | 5, h => cases h; exact hFKnown
 | 6, h => cases h; exact hNextP
 | 7, h => cases h; exact hAt
 | 8, h => cases h; exact hLoad
 | 9, h => cases h; exact hStore
 | 10, h => cases h; exact hCAS
 | 11, h => cases h; exact hAdd
 | 12, h => cases h; exact hRNew
 | 13, h => cases h; exact hRStep
 | 14, h => cases h; exact hHang
 | 15, h => cases h; exact hAnew
 | n + 16, h => cases h
theorem hs_skip {M M' : MemSt} {x s j lv : Int} (h : M' = if j ≤ lv then M else M.store x s) (hj : ¬ j = lv) : M' = if j + 1 ≤ lv then M else M.store x s := by
 by_cases h1 : j ≤ lv
 · rw [if_pos h1] at h; rw [if_pos (by omega)]; exact h
 · rw [if_neg h1] at h; rw [if_neg (by omega)]; exact h
theorem hs_sto {M M' : MemSt} {x j lv : Int} {S c : List Int} (h : M' = if j ≤ lv then M else M.store x (S[lv.toNat]?.getD 0)) (hS : ∀ c : List Int, (S ++ c)[lv.toNat]?.getD 0 = S[lv.toNat]?.getD 0) (hj : j = lv) : M'.store x ((S ++ c)[lv.toNat]?.getD 0) = if j + 1 ≤ lv then M else M.store x (S[lv.toNat]?.getD 0) := by
 rw [if_pos (by omega)] at h; rw [if_neg (by omega), hS, h]
set_option maxRecDepth 10000 in
set_option maxHeartbeats 4000000 in
theorem bHS (P : Program) (hs : List (Nat × Nat × List Nat)) : ∀ env, hsInv env → tIStepL0.sat { cxHs P [lHS] with hints := hs } (ctrR cIStep) env := by
 rintro env ⟨a0, a1, a2, a3, a4, a5, a6, a7, a8, a9, a10, a11, a12, ref, key, i, high, lv, w, by_, F, M, M', j, rfl, hI, hsh, h9, q1, q2, hM, j0, j1, hm⟩
 have hT := okI_T hI
 obtain ⟨⟨b1, b2, b3, b4, b5, b6, b7, b8⟩, b9, b10, b11, b12⟩ := id hI
 have hR := told_9 h9
 obtain ⟨s1, s2, s3⟩ := id hsh
 have hS := nth_app s2 q1 (by omega : lv < a2)
 have hL : IntKind.i64.wrap (lv + 1) = lv + 1 := wrap_small (by omega) (by omega)
 unfold tIStepL0
 repeat' (first
  | (first
    | (with_reducible refine st_need ?_ ?_
       focus (simp only [dn, reduceCtorEq, hS, hL, List.length_append, va_map] <;> first | omega | assumption))
    | (with_reducible refine st_and ?_ ?_)
    | (with_reducible exact st_ok)
    | (with_reducible refine st_br (fun hc => ?_) (fun hc => ?_) <;> (simp only [dn, reduceCtorEq, hS, hL, List.length_append, va_map] at hc) <;> (try (exfalso; first | contradiction | omega)))
    | (refine st_call (by rfl) (by simp only [dn, reduceCtorEq, hS, hL, List.length_append, va_map] <;> rfl) ?_ (by simp only [out_nextP, out_store] <;> rfl) (by simp only [dn] <;> rfl) ?_
       focus (first | exact ⟨_, _, _, _, _, _, _, _, _, _, _, _, _, _, _, rfl⟩ | exact ⟨_, _, _, rfl⟩)))
  | (refine st_callm (by rfl) (by simp only [dn, reduceCtorEq, va_map] <;> rfl) ?_ (fun o env' hm he => ?_)
     focus exact ⟨_, rfl⟩
     obtain ⟨cc, rfl⟩ := hm
     simp only [rowF_e, hR, List.cons_append, List.nil_append] at he
     subst he)
  | (refine st_back (by rfl) (by simp only [dn, reduceCtorEq, hS, va_map] <;> rfl) (by simp only [dn] <;> rfl) (by rfl) ?_ ?_
     focus (rw [wrap_small (n := j + 1) (by omega) (by omega)]
            first
             | exact ⟨_, _, _, _, _, _, _, _, _, _, _, _, _, _, _, _, _, _, _, _, _, _, _, _, rfl, hI, hsh, h9, q1, q2, hM, by omega, by omega, hs_skip hm (by omega)⟩
             | (subst hc; exact ⟨_, _, _, _, _, _, _, _, _, _, _, _, _, _, _, _, _, _, _, _, _, _, _, _, rfl, hI, hsh, h9, q1, q2, hM, by omega, by omega, hs_sto hm hS rfl⟩))
     focus (rw [wrap_small (n := j + 1) (by omega) (by omega)]; show (high - (j + 1)).toNat < (high - j).toNat; omega))
  | (refine st_mk (by rfl) (by simp only [dn, reduceCtorEq, hL, va_map] <;> rfl) ?_ (by simp only [dn] <;> rfl) ?_
     focus
     refine ⟨_, _, _, _, _, _, _, _, _, _, _, _, _, _, _, _, _, _, _, _, _, rfl, ?_⟩
     (repeat' with_reducible apply And.intro) <;> first | assumption | rfl | omega)
  | (refine st_ret (by simp only [dn, reduceCtorEq, va_map] <;> rfl) ?_
     show _ = [EV.u (U.ins (InsSt.step _ M).1), .u (.mem (InsSt.step _ M).2), .b ((InsSt.step _ M).1.line == 0)]
     rw [if_neg (by omega)] at hm
     subst hm
     first
      | (rw [ist_2y (by omega)]; rfl)
      | (rw [ist_2n (by omega)]; rfl))
  | fail "no step")
set_option maxRecDepth 10000 in
set_option maxHeartbeats 16000000 in
theorem vIStep (P : Program) (hs : List (Nat × Nat × List Nat)) : ∀ ins, ins.length = cIStep.nin → cIStep.pre ins → tIStep.sat { cxHs P [lHS] with hints := hs } (ctrR cIStep) ins := by
 rintro ins _ ⟨I, M, rfl, hM⟩
 have hL : True := trivial
 have hT : True := trivial
 have h9 : True := trivial
 have hsh : True := trivial
 have q1 : True := trivial
 have hR : True := trivial
 have hP : True := trivial
 have hS : True := trivial
 have hK : True := trivial
 unfold tIStep
 refine st_and (st_opn (T := ins1) (by rfl) ?_) (st_and (st_opn (T := ins2) (by rfl) ?_) (st_and (st_opn (T := ins3) (by rfl) ?_) (st_and (st_opn (T := ins4) (by rfl) ?_) (st_and (st_opn (T := ins5) (by rfl) ?_) (st_and (st_opn (T := ins6) (by rfl) ?_) (st_and (st_opn (T := ins7) (by rfl) ?_) (st_and (st_opn (T := ins8) (by rfl) ?_) (st_and (st_opn (T := ins9) (by rfl) ?_) (st_and (st_opn (T := ins10) (by rfl) ?_) (st_and (st_opn (T := ins11) (by rfl) ?_) (st_and (st_opn (T := ins12) (by rfl) ?_) (st_and (st_opn (T := insR) (by rfl) ?_) (st_and (st_opn (T := insE) (by rfl) ?_) (st_and (st_opn (T := insG) (by rfl) ?_) (nomore_ins)))))))))))))))
 (rintro ps hl ⟨a0, a1, a2, a3, a4, a5, a6, a7, a8, a9, a10, a11, a12, ref, key, i, high, lv, w, r, F, rfl, hI, hsh⟩ he
  have hT := okI_T hI
  obtain ⟨⟨b1, b2, b3, b4, b5, b6, b7, b8⟩, b9, b10, b11, b12⟩ := id hI
  skip)
 rotate_left
 (rintro ps hl ⟨a0, a1, a2, a3, a4, a5, a6, a7, a8, a9, a10, a11, a12, ref, key, i, high, lv, w, r, F, rfl, hI, hsh, h9, q1, q2⟩ he
  have hT := okI_T hI
  obtain ⟨⟨b1, b2, b3, b4, b5, b6, b7, b8⟩, b9, b10, b11, b12⟩ := id hI
  have hL : IntKind.i64.wrap (lv + 1) = lv + 1 := wrap_small (by omega) (by omega)
  have hR := told_9 h9
  have hP := nth_app hsh.1 q1 (by omega : lv < a2)
  have hS := nth_app hsh.2.1 q1 (by omega : lv < a2)
  have hK := nth_app hsh.2.2 q1 (by omega : lv < a2)
  obtain ⟨s1, s2, s3⟩ := id hsh
  skip)
 rotate_left
 (rintro ps hl ⟨a0, a1, a2, a3, a4, a5, a6, a7, a8, a9, a10, a11, a12, ref, key, i, high, lv, w, r, F, rfl, hI, hsh, h9, rfl⟩ he
  have hT := okI_T hI
  obtain ⟨⟨b1, b2, b3, b4, b5, b6, b7, b8⟩, b9, b10, b11, b12⟩ := id hI
  have q1 : (0 : Int) ≤ 0 := by omega
  have q2 : (0 : Int) < high := by omega
  have hR := told_9 h9
  have hP := nth_app hsh.1 q1 (by omega : 0 < a2)
  have hS := nth_app hsh.2.1 q1 (by omega : 0 < a2)
  have hK := nth_app hsh.2.2 q1 (by omega : 0 < a2)
  obtain ⟨s1, s2, s3⟩ := id hsh
  skip)
 rotate_left
 (rintro ps hl ⟨a0, a1, a2, a3, a4, a5, a6, a7, a8, a9, a10, a11, a12, ref, key, i, high, lv, w, r, F, rfl, hI, hsh, h9, q1, q2⟩ he
  have hT := okI_T hI
  obtain ⟨⟨b1, b2, b3, b4, b5, b6, b7, b8⟩, b9, b10, b11, b12⟩ := id hI
  have hL : IntKind.i64.wrap (lv + 1) = lv + 1 := wrap_small (by omega) (by omega)
  have hR := told_9 h9
  have hP := nth_app hsh.1 q1 (by omega : lv < a2)
  have hS := nth_app hsh.2.1 q1 (by omega : lv < a2)
  have hK := nth_app hsh.2.2 q1 (by omega : lv < a2)
  obtain ⟨s1, s2, s3⟩ := id hsh
  skip)
 rotate_left
 (rintro ps hl ⟨a0, a1, a2, a3, a4, a5, a6, a7, a8, a9, a10, a11, a12, ref, key, i, high, lv, w, F, rfl, hI, hsh, h9, q1, q2⟩ he
  have hT := okI_T hI
  obtain ⟨⟨b1, b2, b3, b4, b5, b6, b7, b8⟩, b9, b10, b11, b12⟩ := id hI
  have hL : IntKind.i64.wrap (lv + 1) = lv + 1 := wrap_small (by omega) (by omega)
  have hR := told_9 h9
  have hP := nth_app hsh.1 q1 (by omega : lv < a2)
  have hS := nth_app hsh.2.1 q1 (by omega : lv < a2)
  have hK := nth_app hsh.2.2 q1 (by omega : lv < a2)
  obtain ⟨s1, s2, s3⟩ := id hsh
  skip)
 rotate_left
 (rintro ps hl ⟨a0, a1, a2, a3, a4, a5, a6, a7, a8, a9, a10, a11, a12, ref, key, i, high, lv, w, r, F, rfl, hI, hsh, h9, q1, q2⟩ he
  have hT := okI_T hI
  obtain ⟨⟨b1, b2, b3, b4, b5, b6, b7, b8⟩, b9, b10, b11, b12⟩ := id hI
  have hL : IntKind.i64.wrap (lv + 1) = lv + 1 := wrap_small (by omega) (by omega)
  have hR := told_9 h9
  have hP := nth_app hsh.1 q1 (by omega : lv < a2)
  have hS := nth_app hsh.2.1 q1 (by omega : lv < a2)
  have hK := nth_app hsh.2.2 q1 (by omega : lv < a2)
  obtain ⟨s1, s2, s3⟩ := id hsh
  skip)
 rotate_left
 (rintro ps hl ⟨a0, a1, a2, a3, a4, a5, a6, a7, a8, a9, a10, a11, a12, ref, key, i, high, lv, w, r, F, rfl, hI, hsh, q1, q2⟩ he
  have hT := okI_T hI
  obtain ⟨⟨b1, b2, b3, b4, b5, b6, b7, b8⟩, b9, b10, b11, b12⟩ := id hI
  have hL : IntKind.i64.wrap (lv + 1) = lv + 1 := wrap_small (by omega) (by omega)
  skip)
 rotate_left
 (rintro ps hl ⟨a0, a1, a2, a3, a4, a5, a6, a7, a8, a9, a10, a11, a12, ref, key, i, high, lv, w, r, F, rfl, hI, hsh, h9, q1, q2⟩ he
  have hT := okI_T hI
  obtain ⟨⟨b1, b2, b3, b4, b5, b6, b7, b8⟩, b9, b10, b11, b12⟩ := id hI
  have hL : IntKind.i64.wrap (lv + 1) = lv + 1 := wrap_small (by omega) (by omega)
  have hR := told_9 h9
  have hP := nth_app hsh.1 q1 (by omega : lv < a2)
  have hS := nth_app hsh.2.1 q1 (by omega : lv < a2)
  have hK := nth_app hsh.2.2 q1 (by omega : lv < a2)
  obtain ⟨s1, s2, s3⟩ := id hsh
  skip)
 rotate_left
 (rintro ps hl ⟨a0, a1, a2, a3, a4, a5, a6, a7, a8, a9, a10, a11, a12, ref, key, i, high, lv, w, r, F, rfl, hI⟩ he
  have hT := okI_T hI
  obtain ⟨⟨b1, b2, b3, b4, b5, b6, b7, b8⟩, b9, b10, b11, b12⟩ := id hI
  skip)
 rotate_left
 (rintro ps hl ⟨a0, a1, a2, a3, a4, a5, a6, a7, a8, a9, a10, a11, a12, ref, key, i, high, lv, w, r, F, rfl, hI, hsh⟩ he
  have hT := okI_T hI
  obtain ⟨⟨b1, b2, b3, b4, b5, b6, b7, b8⟩, b9, b10, b11, b12⟩ := id hI
  skip)
 rotate_left
 (rintro ps hl ⟨a0, a1, a2, a3, a4, a5, a6, a7, a8, a9, a10, a11, a12, ref, key, i, high, lv, w, r, F, rfl, hI⟩ he
  have hT := okI_T hI
  obtain ⟨⟨b1, b2, b3, b4, b5, b6, b7, b8⟩, b9, b10, b11, b12⟩ := id hI
  skip)
 rotate_left
 (rintro ps hl ⟨a0, a1, a2, a3, a4, a5, a6, a7, a8, a9, a10, a11, a12, ref, key, i, high, lv, w, r, F, Rr, rfl, hI⟩ he
  have hT := okI_T hI
  obtain ⟨⟨b1, b2, b3, b4, b5, b6, b7, b8⟩, b9, b10, b11, b12⟩ := id hI
  skip)
 rotate_left
 (rintro ps hl ⟨a0, a1, a2, a3, a4, a5, a6, a7, a8, a9, a10, a11, a12, ref, key, high, e, rfl, hk⟩ he
  skip)
 rotate_left
 (rintro ps hl ⟨a0, a1, a2, a3, a4, a5, a6, a7, a8, a9, a10, a11, a12, ref, key, i, high, lv, w, r, F, rfl, hk⟩ he
  skip)
 rotate_left
 (rintro ps hl ⟨a0, a1, a2, a3, a4, a5, a6, a7, a8, a9, a10, a11, a12, ref, key, i, high, lv, w, r, F, Rr, rfl, hk⟩ he
  skip)
 rotate_left
 all_goals
  simp only [List.getElem?_cons_zero, ins1, ins1Obj, ins2, ins2Obj, ins3, ins3Obj, ins4, ins4Obj, ins5, ins5Obj, ins6, ins6Obj, ins7, ins7Obj, ins8, ins8Obj, ins9, ins9Obj, ins10, ins10Obj, ins11, ins11Obj, ins12, ins12Obj, insR, insRObj, insE, insEObj, insG, insGObj, Option.some.injEq, EV.u.injEq, U.ins.injEq] at he
  subst he
  simp only [List.cons_append, List.nil_append]
  repeat' (first
   | (first
     | (with_reducible refine st_need ?_ ?_
        focus (simp only [dn, reduceCtorEq, hP, hS, hK, hL, List.length_append, va_map, shr63, beq_iff_eq, beq_eq_false_iff_ne, ne_eq] <;> first | omega | assumption))
     | (with_reducible refine st_and ?_ ?_)
     | (with_reducible exact st_ok)
     | (with_reducible refine st_br (fun hc => ?_) (fun hc => ?_) <;> (simp only [dn, reduceCtorEq, hP, hS, hK, hL, List.length_append, va_map, shr63, beq_iff_eq, beq_eq_false_iff_ne, ne_eq] at hc) <;> (try (exfalso; first | contradiction | omega)))
     | (refine st_call (by rfl) (by simp only [dn, reduceCtorEq, hP, hS, hK, hL, List.length_append, va_map, shr63, beq_iff_eq, beq_eq_false_iff_ne, ne_eq] <;> rfl) ?_ (by simp only [out_fnew, out_fstep, out_fby, out_nextP, out_atP, out_load, out_store, out_cas', out_add, out_rnew, out_rstep, out_hang, out_anew] <;> rfl) (by simp only [dn] <;> rfl) ?_
        focus (first | exact ⟨_, _, rfl, hM⟩ | exact ⟨_, _, _, _, _, _, _, _, _, _, _, _, _, _, rfl, hT⟩ | exact ⟨_, rfl⟩ | exact ⟨_, _, _, _, _, _, _, _, _, _, _, _, _, _, _, rfl⟩ | exact ⟨_, _, _, _, _, _, _, _, _, _, _, rfl, by omega⟩ | exact ⟨_, _, rfl⟩ | exact ⟨_, _, _, rfl⟩ | exact ⟨_, _, _, _, rfl⟩ | exact ⟨_, _, _, _, _, _, _, _, _, _, _, _, _, _, _, _, _, _, _, _, _, _, _, _, _, _, rfl, h9, hsh, q1, by omega⟩ | exact ⟨_, _, _, _, _, _, _, _, _, _, _, _, _, _, _, _, _, _, _, _, _, _, _, _, _, _, rfl, hT⟩)))
   | (refine st_callm (by rfl) (by simp only [dn, reduceCtorEq, va_map] <;> rfl) ?_ (fun o env' hm he => ?_)
      focus exact ⟨_, rfl⟩
      obtain ⟨cc, rfl⟩ := hm
      simp only [rowF_e, rowQ_e, hR, List.cons_append, List.nil_append] at he
      subst he)
   | (refine st_loop (by rfl) (by simp only [dn, reduceCtorEq, va_map] <;> rfl) (by simp only [dn] <;> rfl) ?_ (fun env' h => bHS P hs env' h)
      exact ⟨_, _, _, _, _, _, _, _, _, _, _, _, _, _, _, _, _, _, _, _, _, _, _, _, rfl, hI, hsh, h9, q1, q2, hM, by omega, by omega, by rw [if_pos (by omega)]⟩)
   | (refine st_mk (by rfl) (by simp only [dn, reduceCtorEq, hP, hS, hK, hL, va_map] <;> rfl) ?_ (by simp only [dn] <;> rfl) ?_
      focus
      (first | refine ⟨_, _, _, _, _, _, _, _, _, _, _, _, _, _, _, _, _, _, _, _, _, rfl, ?_⟩ | refine ⟨_, _, _, _, _, _, _, _, _, _, _, _, _, _, _, _, _, _, _, _, _, _, rfl, ?_⟩ | refine ⟨_, _, _, _, _, _, _, _, _, _, _, _, _, _, _, _, _, _, _, _, rfl, ?_⟩ | refine ⟨_, _, _, _, _, _, _, _, _, _, _, _, _, _, _, _, _, rfl, ?_⟩ | refine ⟨_, rfl, ?_⟩)
      (repeat' with_reducible apply And.intro) <;> first | assumption | omega | exact step_shape hsh | exact new_shape (by omega) | rfl | trivial)
   | (refine st_ret (by simp only [dn, reduceCtorEq, hP, hS, hK, va_map] <;> rfl) ?_
      show _ = [EV.u (U.ins (InsSt.step _ M).1), .u (.mem (InsSt.step _ M).2), .b ((InsSt.step _ M).1.line == 0)]
      first
       | rfl
       | (rw [ist_1y ‹_›]; rfl)
       | (rw [ist_1n ‹_›]; rfl)
       | (rw [ist_2y (by omega)]; rfl)
       | (rw [ist_2n (by omega)]; rfl)
       | (rw [ist_3a ‹_› (by omega)]; rfl)
       | (rw [ist_3b ‹_› (by omega)]; rfl)
       | (rw [ist_3n (by simp_all)]; rfl)
       | (rw [ist_4m (top_t (n_load hM _) ‹_›)]; rfl)
       | (rw [ist_4e (top_f (n_load hM _) ‹_›) ‹_›]; rfl)
       | (rw [ist_4d (top_f (n_load hM _) ‹_›) ‹_›]; rfl)
       | (rw [ist_5y ‹_›]; rfl)
       | (rw [ist_5n (by simp_all)]; rfl)
       | (rw [ist_6a ‹_› (by omega)]; rfl)
       | (rw [ist_6b ‹_› (by omega)]; rfl)
       | (rw [ist_6n (by simp_all)]; rfl)
       | (rw [ist_7y ‹_›]; rfl)
       | (rw [ist_7n ‹_›]; rfl)
       | (rw [ist_8y (top_t (n_load hM _) ‹_›)]; rfl)
       | (rw [ist_8n (top_f (n_load hM _) ‹_›)]; rfl)
       | (rw [ist_9y (top_t (n_load hM _) ‹_›)]; rfl)
       | (rw [ist_9n (top_f (n_load hM _) ‹_›)]; rfl)
       | (rw [ist_10y ‹_›]; rfl)
       | (rw [ist_10n ‹_›]; rfl)
       | (rw [ist_11y ‹_›]; rfl)
       | (rw [ist_11n ‹_›]; rfl)
       | (rw [ist_12y ‹_›]; rfl)
       | (rw [ist_12n ‹_›]; rfl))
   | fail "no step")
theorem hIStep : cIStep.Holds objs Tryz.prog := runCtr_holds (X := { cxHs Tryz.prog [lHS] with hints := hsIStep }) objsOk mixed hctsHs (callable _ Tryz.func50 (by kernel_rfl) (by kernel_rfl)) (by rintro ins _ ⟨_, _, rfl, _⟩; rfl) (by rw [rIStep]; exact vIStep _ _)
theorem hctsHt : ∀ (ci : Nat) (c : Ctr U), ctsHt[ci]? = some c → c.Holds objs Tryz.prog := by
 intro ci c h
 match ci, h with
 | 0, h => cases h; exact hQFNew
 | 1, h => cases h; exact hQFStep
 | 2, h => cases h; exact hQBy
 | 3, h => cases h; exact hQPreds
 | 4, h => cases h; exact hQSuccs
 | 5, h => cases h; exact hQKnown
 | 6, h => cases h; exact hNextQ
 | 7, h => cases h; exact hRAt
 | 8, h => cases h; exact hQLoad
 | 9, h => cases h; exact hQStore
 | 10, h => cases h; exact hQCAS
 | 11, h => cases h; exact hQAdd
 | 12, h => cases h; exact hQRNew
 | 13, h => cases h; exact hQRStep
 | n + 14, h => cases h
set_option maxRecDepth 10000 in
set_option maxHeartbeats 16000000 in
theorem vQIStep (P : Program) (hs : List (Nat × Nat × List Nat)) : ∀ ins, ins.length = cQIStep.nin → cQIStep.pre ins → tQIStep.sat { cxHt P with hints := hs } (ctrR cQIStep) ins := by
 rintro ins _ ⟨I, M, rfl, hM⟩
 have hL : True := trivial
 have hT : True := trivial
 have h9 : True := trivial
 have hsh : True := trivial
 have q1 : True := trivial
 have hR : True := trivial
 have hP : True := trivial
 have hS : True := trivial
 have hK : True := trivial
 unfold tQIStep
 refine st_and (st_opn (T := rins1) (by rfl) ?_) (st_and (st_opn (T := rins2) (by rfl) ?_) (st_and (st_opn (T := rins3) (by rfl) ?_) (st_and (st_opn (T := rins4) (by rfl) ?_) (st_and (st_opn (T := rins5) (by rfl) ?_) (st_and (st_opn (T := rins6) (by rfl) ?_) (st_and (st_opn (T := rins7) (by rfl) ?_) (st_and (st_opn (T := rins8) (by rfl) ?_) (st_and (st_opn (T := rins9) (by rfl) ?_) (st_and (st_opn (T := rins10) (by rfl) ?_) (st_and (st_opn (T := rins11) (by rfl) ?_) (st_and (st_opn (T := rins12) (by rfl) ?_) (st_and (st_opn (T := rinsR) (by rfl) ?_) (st_and (st_opn (T := rinsE) (by rfl) ?_) (st_and (st_opn (T := rinsG) (by rfl) ?_) (nomore_rins)))))))))))))))
 (rintro ps hl ⟨a0, a1, a2, a3, a4, a5, a6, a7, a8, a9, a10, a11, a12, ref, key, i, high, lv, w, r, F, rfl, hI, hsh⟩ he
  have hT := okI_T hI
  obtain ⟨⟨b1, b2, b3, b4, b5, b6, b7, b8⟩, b9, b10, b11, b12⟩ := id hI
  skip)
 rotate_left
 (rintro ps hl ⟨a0, a1, a2, a3, a4, a5, a6, a7, a8, a9, a10, a11, a12, ref, key, i, high, lv, w, r, F, rfl, hI, hsh, h9, q1, q2⟩ he
  have hT := okI_T hI
  obtain ⟨⟨b1, b2, b3, b4, b5, b6, b7, b8⟩, b9, b10, b11, b12⟩ := id hI
  have hL : IntKind.i64.wrap (lv + 1) = lv + 1 := wrap_small (by omega) (by omega)
  have hR := told_9 h9
  have hP := nth_app hsh.1 q1 (by omega : lv < a2)
  have hS := nth_app hsh.2.1 q1 (by omega : lv < a2)
  have hK := nth_app hsh.2.2 q1 (by omega : lv < a2)
  obtain ⟨s1, s2, s3⟩ := id hsh
  skip)
 rotate_left
 (rintro ps hl ⟨a0, a1, a2, a3, a4, a5, a6, a7, a8, a9, a10, a11, a12, ref, key, i, high, lv, w, r, F, rfl, hI, hsh, h9, rfl⟩ he
  have hT := okI_T hI
  obtain ⟨⟨b1, b2, b3, b4, b5, b6, b7, b8⟩, b9, b10, b11, b12⟩ := id hI
  have q1 : (0 : Int) ≤ 0 := by omega
  have q2 : (0 : Int) < high := by omega
  have hR := told_9 h9
  have hP := nth_app hsh.1 q1 (by omega : 0 < a2)
  have hS := nth_app hsh.2.1 q1 (by omega : 0 < a2)
  have hK := nth_app hsh.2.2 q1 (by omega : 0 < a2)
  obtain ⟨s1, s2, s3⟩ := id hsh
  skip)
 rotate_left
 (rintro ps hl ⟨a0, a1, a2, a3, a4, a5, a6, a7, a8, a9, a10, a11, a12, ref, key, i, high, lv, w, r, F, rfl, hI, hsh, h9, q1, q2⟩ he
  have hT := okI_T hI
  obtain ⟨⟨b1, b2, b3, b4, b5, b6, b7, b8⟩, b9, b10, b11, b12⟩ := id hI
  have hL : IntKind.i64.wrap (lv + 1) = lv + 1 := wrap_small (by omega) (by omega)
  have hR := told_9 h9
  have hP := nth_app hsh.1 q1 (by omega : lv < a2)
  have hS := nth_app hsh.2.1 q1 (by omega : lv < a2)
  have hK := nth_app hsh.2.2 q1 (by omega : lv < a2)
  obtain ⟨s1, s2, s3⟩ := id hsh
  skip)
 rotate_left
 (rintro ps hl ⟨a0, a1, a2, a3, a4, a5, a6, a7, a8, a9, a10, a11, a12, ref, key, i, high, lv, w, r, F, rfl, hI, hsh, h9, q1, q2⟩ he
  have hT := okI_T hI
  obtain ⟨⟨b1, b2, b3, b4, b5, b6, b7, b8⟩, b9, b10, b11, b12⟩ := id hI
  have hL : IntKind.i64.wrap (lv + 1) = lv + 1 := wrap_small (by omega) (by omega)
  have hR := told_9 h9
  have hP := nth_app hsh.1 q1 (by omega : lv < a2)
  have hS := nth_app hsh.2.1 q1 (by omega : lv < a2)
  have hK := nth_app hsh.2.2 q1 (by omega : lv < a2)
  obtain ⟨s1, s2, s3⟩ := id hsh
  skip)
 rotate_left
 (rintro ps hl ⟨a0, a1, a2, a3, a4, a5, a6, a7, a8, a9, a10, a11, a12, ref, key, i, high, lv, w, r, F, rfl, hI, hsh, h9, q1, q2⟩ he
  have hT := okI_T hI
  obtain ⟨⟨b1, b2, b3, b4, b5, b6, b7, b8⟩, b9, b10, b11, b12⟩ := id hI
  have hL : IntKind.i64.wrap (lv + 1) = lv + 1 := wrap_small (by omega) (by omega)
  have hR := told_9 h9
  have hP := nth_app hsh.1 q1 (by omega : lv < a2)
  have hS := nth_app hsh.2.1 q1 (by omega : lv < a2)
  have hK := nth_app hsh.2.2 q1 (by omega : lv < a2)
  obtain ⟨s1, s2, s3⟩ := id hsh
  skip)
 rotate_left
 (rintro ps hl ⟨a0, a1, a2, a3, a4, a5, a6, a7, a8, a9, a10, a11, a12, ref, key, i, high, lv, w, r, F, rfl, hI, hsh, q1, q2⟩ he
  have hT := okI_T hI
  obtain ⟨⟨b1, b2, b3, b4, b5, b6, b7, b8⟩, b9, b10, b11, b12⟩ := id hI
  have hL : IntKind.i64.wrap (lv + 1) = lv + 1 := wrap_small (by omega) (by omega)
  skip)
 rotate_left
 (rintro ps hl ⟨a0, a1, a2, a3, a4, a5, a6, a7, a8, a9, a10, a11, a12, ref, key, i, high, lv, w, r, F, rfl, hI, hsh, h9, q1, q2⟩ he
  have hT := okI_T hI
  obtain ⟨⟨b1, b2, b3, b4, b5, b6, b7, b8⟩, b9, b10, b11, b12⟩ := id hI
  have hL : IntKind.i64.wrap (lv + 1) = lv + 1 := wrap_small (by omega) (by omega)
  have hR := told_9 h9
  have hP := nth_app hsh.1 q1 (by omega : lv < a2)
  have hS := nth_app hsh.2.1 q1 (by omega : lv < a2)
  have hK := nth_app hsh.2.2 q1 (by omega : lv < a2)
  obtain ⟨s1, s2, s3⟩ := id hsh
  skip)
 rotate_left
 (rintro ps hl ⟨a0, a1, a2, a3, a4, a5, a6, a7, a8, a9, a10, a11, a12, ref, key, i, high, lv, w, r, F, rfl, hI⟩ he
  have hT := okI_T hI
  obtain ⟨⟨b1, b2, b3, b4, b5, b6, b7, b8⟩, b9, b10, b11, b12⟩ := id hI
  skip)
 rotate_left
 (rintro ps hl ⟨a0, a1, a2, a3, a4, a5, a6, a7, a8, a9, a10, a11, a12, ref, key, i, high, lv, w, r, F, rfl, hI, hsh⟩ he
  have hT := okI_T hI
  obtain ⟨⟨b1, b2, b3, b4, b5, b6, b7, b8⟩, b9, b10, b11, b12⟩ := id hI
  skip)
 rotate_left
 (rintro ps hl ⟨a0, a1, a2, a3, a4, a5, a6, a7, a8, a9, a10, a11, a12, ref, key, i, high, lv, w, r, F, rfl, hI⟩ he
  have hT := okI_T hI
  obtain ⟨⟨b1, b2, b3, b4, b5, b6, b7, b8⟩, b9, b10, b11, b12⟩ := id hI
  skip)
 rotate_left
 (rintro ps hl ⟨a0, a1, a2, a3, a4, a5, a6, a7, a8, a9, a10, a11, a12, ref, key, i, high, lv, w, r, F, Rr, rfl, hI⟩ he
  have hT := okI_T hI
  obtain ⟨⟨b1, b2, b3, b4, b5, b6, b7, b8⟩, b9, b10, b11, b12⟩ := id hI
  skip)
 rotate_left
 (rintro ps hl ⟨e, rfl, hk⟩ he
  skip)
 rotate_left
 (rintro ps hl ⟨a0, a1, a2, a3, a4, a5, a6, a7, a8, a9, a10, a11, a12, ref, key, i, high, lv, w, r, F, rfl, hk⟩ he
  skip)
 rotate_left
 (rintro ps hl ⟨a0, a1, a2, a3, a4, a5, a6, a7, a8, a9, a10, a11, a12, ref, key, i, high, lv, w, r, F, Rr, rfl, hk⟩ he
  skip)
 rotate_left
 all_goals
  simp only [List.getElem?_cons_zero, rins1, rins1Obj, rins2, rins2Obj, rins3, rins3Obj, rins4, rins4Obj, rins5, rins5Obj, rins6, rins6Obj, rins7, rins7Obj, rins8, rins8Obj, rins9, rins9Obj, rins10, rins10Obj, rins11, rins11Obj, rins12, rins12Obj, rinsR, rinsRObj, rinsE, rinsEObj, rinsG, rinsGObj, Option.some.injEq, EV.u.injEq, U.rins.injEq] at he
  subst he
  simp only [List.cons_append, List.nil_append]
  repeat' (first
   | (first
     | (with_reducible refine st_need ?_ ?_
        focus (simp only [dn, reduceCtorEq, hP, hS, hK, hL, List.length_append, va_map, shr63, beq_iff_eq, beq_eq_false_iff_ne, ne_eq] <;> first | omega | assumption))
     | (with_reducible refine st_and ?_ ?_)
     | (with_reducible exact st_ok)
     | (with_reducible refine st_br (fun hc => ?_) (fun hc => ?_) <;> (simp only [dn, reduceCtorEq, hP, hS, hK, hL, List.length_append, va_map, shr63, beq_iff_eq, beq_eq_false_iff_ne, ne_eq] at hc) <;> (try (exfalso; first | contradiction | omega)))
     | (refine st_call (by rfl) (by simp only [dn, reduceCtorEq, hP, hS, hK, hL, List.length_append, va_map, shr63, beq_iff_eq, beq_eq_false_iff_ne, ne_eq] <;> rfl) ?_ (by simp only [out_qfnew, out_qfstep, out_qby, out_nextQ, out_atQ, fo_load, fo_store, fo_cas, out_qadd, out_qrnew, out_qrstep] <;> rfl) (by simp only [dn] <;> rfl) ?_
        focus (first | exact ⟨_, _, rfl, hM⟩ | exact ⟨_, _, _, _, _, _, _, _, _, _, _, _, _, _, rfl, hT⟩ | exact ⟨_, rfl⟩ | exact ⟨_, _, _, _, _, _, _, _, _, _, _, _, _, _, _, rfl⟩ | exact ⟨_, _, _, _, _, _, _, _, _, _, _, rfl, by omega⟩ | exact ⟨_, _, rfl, hM.1⟩ | exact ⟨_, _, _, rfl, hM.1⟩ | exact ⟨_, _, _, _, rfl, hM.1⟩)))
   | (refine st_callm (by rfl) (by simp only [dn, reduceCtorEq, va_map] <;> rfl) ?_ (fun o env' hm he => ?_)
      focus exact ⟨_, rfl⟩
      obtain ⟨cc, rfl⟩ := hm
      simp only [rowF_e, rowQ_e, hR, List.cons_append, List.nil_append] at he
      subst he)
   | (refine st_mk (by rfl) (by simp only [dn, reduceCtorEq, hP, hS, hK, hL, va_map] <;> rfl) ?_ (by simp only [dn] <;> rfl) ?_
      focus
      (first | refine ⟨_, _, _, _, _, _, _, _, _, _, _, _, _, _, _, _, _, _, _, _, _, rfl, ?_⟩ | refine ⟨_, _, _, _, _, _, _, _, _, _, _, _, _, _, _, _, _, _, _, _, _, _, rfl, ?_⟩ | refine ⟨_, _, _, _, _, _, _, _, _, _, _, _, _, _, _, _, _, _, _, _, rfl, ?_⟩ | refine ⟨_, _, _, _, _, _, _, _, _, _, _, _, _, _, _, _, _, rfl, ?_⟩ | refine ⟨_, rfl, ?_⟩)
      (repeat' with_reducible apply And.intro) <;> first | assumption | omega | exact step_shape hsh | exact new_shape (by omega) | rfl | trivial)
   | (refine st_ret (by simp only [dn, reduceCtorEq, hP, hS, hK, va_map] <;> rfl) ?_
      show _ = [EV.u (U.rins (InsSt.step _ M).1), .u (.rmem (InsSt.step _ M).2), .b ((InsSt.step _ M).1.line == 0)]
      first
       | rfl
       | (rw [ist_1y ‹_›]; rfl)
       | (rw [ist_1n ‹_›]; rfl)
       | (rw [ist_2y (by omega)]; rfl)
       | (rw [ist_2n (by omega)]; rfl)
       | (rw [ist_3a ‹_› (by omega)]; rfl)
       | (rw [ist_3b ‹_› (by omega)]; rfl)
       | (rw [ist_3n (by simp_all)]; rfl)
       | (rw [ist_4m (top_t (n_load hM _) ‹_›)]; rfl)
       | (rw [ist_4e (top_f (n_load hM _) ‹_›) ‹_›]; rfl)
       | (rw [ist_4d (top_f (n_load hM _) ‹_›) ‹_›]; rfl)
       | (rw [ist_5y ‹_›]; rfl)
       | (rw [ist_5n (by simp_all)]; rfl)
       | (rw [ist_6a ‹_› (by omega)]; rfl)
       | (rw [ist_6b ‹_› (by omega)]; rfl)
       | (rw [ist_6n (by simp_all)]; rfl)
       | (rw [ist_7y ‹_›]; rfl)
       | (rw [ist_7n ‹_›]; rfl)
       | (rw [ist_8y (top_t (n_load hM _) ‹_›)]; rfl)
       | (rw [ist_8n (top_f (n_load hM _) ‹_›)]; rfl)
       | (rw [ist_9y (top_t (n_load hM _) ‹_›)]; rfl)
       | (rw [ist_9n (top_f (n_load hM _) ‹_›)]; rfl)
       | (rw [ist_10y ‹_›]; rfl)
       | (rw [ist_10n ‹_›]; rfl)
       | (rw [ist_11y ‹_›]; rfl)
       | (rw [ist_11n ‹_›]; rfl)
       | (rw [ist_12y ‹_›]; rfl)
       | (rw [ist_12n ‹_›]; rfl))
   | fail "no step")
theorem hQIStep : cQIStep.Holds objs Tryz.prog := runCtr_holds (X := { cxHt Tryz.prog with hints := hsQIStep }) objsOk mixed hctsHt (callable _ Tryz.func58 (by kernel_rfl) (by kernel_rfl)) (by rintro ins _ ⟨_, _, rfl, _⟩; rfl) (by rw [rQIStep]; exact vQIStep _ _)
end Go.Proofs.YtdldcofddfkkbaaGreat
