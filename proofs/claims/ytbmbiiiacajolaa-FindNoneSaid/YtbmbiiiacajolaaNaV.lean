/- Finds of none: the contracts hold. -/
import Derived.Test.YtbmbiiiacajolaaNaT
import Derived.Test.YtbmbiiiacajolaaTdV
namespace Go.Proofs.Ytbmbiiiacajolaa
set_option linter.unusedVariables false
set_option linter.unusedSimpArgs false
set_option linter.unusedSectionVars false
open Go Go.RowKit

theorem okT_t {n h w s : Int} (g : okT n h w s = true) : 1 ≤ w ∧ w ≤ 4 ∧ 1 ≤ s ∧ s ≤ 128 ∧ 0 ≤ n ∧ n < 4096 ∧ 0 ≤ h ∧ h < 4096 := of_decide_eq_true g
theorem okT_f {n h w s : Int} (g : okT n h w s = false) : ¬ (1 ≤ w ∧ w ≤ 4 ∧ 1 ≤ s ∧ s ≤ 128 ∧ 0 ≤ n ∧ n < 4096 ∧ 0 ≤ h ∧ h < 4096) := of_decide_eq_false g
theorem okT_is (n h w s : Int) : okT n h w s = decide (1 ≤ w ∧ w ≤ 4 ∧ 1 ≤ s ∧ s ≤ 128 ∧ 0 ≤ n ∧ n < 4096 ∧ 0 ≤ h ∧ h < 4096) := rfl
theorem one_b {a b : Bool} (h : a = b) : ([EV.b a] : List (EV U)) = [EV.b b] := by rw [h]
theorem vSB (P : Program) : ∀ ins, ins.length = cSB.nin → cSB.pre ins → tSB.sat (cx P []) (ctrR cSB) ins := by
  rintro ins _ ⟨a0, a1, a2, a3, a4, a5, a6, a7, a8, a9, a10, a11, a12, rfl⟩
  simp only [Tree.sat, Bx.den, Ex.den, Bnd.den, gI, gB, gL, gF, gN, gNil, List.map_cons, List.map_nil, List.cons_append, List.nil_append, List.getElem?_cons_zero, List.getElem?_cons_succ, List.getD, Option.getD_some, cmp_eql_t, cmp_eql_f, cmp_neq_t, cmp_neq_f, cmp_lss_t, cmp_lss_f, cmp_leq_t, cmp_leq_f, cmp_gtr_t, cmp_gtr_f, cmp_geq_t, cmp_geq_f, Bool.not_eq_true', Bool.not_eq_false', Bool.and_eq_true, Bool.and_eq_false_iff, binDen, ctrR, Ctr.may, List.take_succ_cons, List.take_zero, Option.some.injEq, EV.u.injEq, tSB, cx, cSB, cSndB]
  repeat' (first | with_reducible apply And.intro | intro _)
  all_goals
    rw [okT_is]
    first
    | (rw [decide_eq_false (by omega)]; done)
    | (refine one_b ?_
       rw [Bool.eq_iff_iff, decide_eq_true_iff]
       simp only [cmpDen, decide_eq_true_eq]
       omega)
theorem vRSB (P : Program) : ∀ ins, ins.length = cRSB.nin → cRSB.pre ins → tRSB.sat (cx P []) (ctrR cRSB) ins := by
  rintro ins _ ⟨a0, a1, a2, a3, a4, a5, a6, a7, a8, a9, a10, a11, a12, rfl⟩
  simp only [Tree.sat, Bx.den, Ex.den, Bnd.den, gI, gB, gL, gF, gN, gNil, List.map_cons, List.map_nil, List.cons_append, List.nil_append, List.getElem?_cons_zero, List.getElem?_cons_succ, List.getD, Option.getD_some, cmp_eql_t, cmp_eql_f, cmp_neq_t, cmp_neq_f, cmp_lss_t, cmp_lss_f, cmp_leq_t, cmp_leq_f, cmp_gtr_t, cmp_gtr_f, cmp_geq_t, cmp_geq_f, Bool.not_eq_true', Bool.not_eq_false', Bool.and_eq_true, Bool.and_eq_false_iff, binDen, ctrR, Ctr.may, List.take_succ_cons, List.take_zero, Option.some.injEq, EV.u.injEq, tRSB, cx, cRSB, cSndB]
  repeat' (first | with_reducible apply And.intro | intro _)
  all_goals
    rw [okT_is]
    first
    | (rw [decide_eq_false (by omega)]; done)
    | (refine one_b ?_
       rw [Bool.eq_iff_iff, decide_eq_true_iff]
       simp only [cmpDen, decide_eq_true_eq]
       omega)
theorem vFNU (P : Program) : ∀ ins, ins.length = cFNoneU.nin → cFNoneU.pre ins → tFNU.sat (cxNF P) (ctrR cFNoneU) ins := by
  rintro ins _ ⟨a0, a1, a2, a3, a4, a5, a6, a7, a8, a9, a10, a11, a12, k, rfl, hk⟩
  simp only [Tree.sat, Bx.den, Ex.den, Bnd.den, gI, gB, gL, gF, gN, gNil, List.map_cons, List.map_nil, List.cons_append, List.nil_append, List.getElem?_cons_zero, List.getElem?_cons_succ, List.getD, Option.getD_some, cmp_eql_t, cmp_eql_f, cmp_neq_t, cmp_neq_f, cmp_lss_t, cmp_lss_f, cmp_leq_t, cmp_leq_f, cmp_gtr_t, cmp_gtr_f, cmp_geq_t, cmp_geq_f, Bool.not_eq_true', Bool.not_eq_false', Bool.and_eq_true, Bool.and_eq_false_iff, binDen, ctrR, Ctr.may, List.take_succ_cons, List.take_zero, Option.some.injEq, EV.u.injEq, tFNU, cx, cxNF, ctsNF, cSf, cRSf, cSnd, boolC, cFNoneU]
  repeat' (first | with_reducible apply And.intro | intro _)
  all_goals first
    | exact ⟨_, _, _, _, _, _, _, _, _, _, _, _, _, rfl, hk⟩
    | trivial
    | rfl
set_option maxHeartbeats 4000000 in
theorem vFNA (P : Program) : ∀ ins, ins.length = (cFNone 1).nin → (cFNone 1).pre ins → tFNA.sat (cxNT P) (ctrR (cFNone 1)) ins := by
  rintro ins _ ⟨a0, a1, a2, a3, a4, a5, a6, a7, a8, a9, a10, a11, a12, k, rfl, rfl, hk⟩
  have hh := okT_t hk
  have e1 : IntKind.i64.wrap (IntKind.i64.wrap (a1 + 0) + 0) = a1 := by rw [Int.add_zero a1, wrap_small (n := a1) (by omega) (by omega), Int.add_zero, wrap_small (n := a1) (by omega) (by omega)]
  simp only [Tree.sat, Bx.den, Ex.den, Bnd.den, gI, gB, gL, gF, gN, gNil, List.map_cons, List.map_nil, List.cons_append, List.nil_append, List.getElem?_cons_zero, List.getElem?_cons_succ, List.getD, Option.getD_some, cmp_eql_t, cmp_eql_f, cmp_neq_t, cmp_neq_f, cmp_lss_t, cmp_lss_f, cmp_leq_t, cmp_leq_f, cmp_gtr_t, cmp_gtr_f, cmp_geq_t, cmp_geq_f, Bool.not_eq_true', Bool.not_eq_false', Bool.and_eq_true, Bool.and_eq_false_iff, binDen, ctrR, Ctr.may, List.take_succ_cons, List.take_zero, Option.some.injEq, EV.u.injEq, tFNA, cx, cxNT, ctsNT, cSt, cRSt, cSnd, boolC, cFNone, e1, List.take_zero, List.nil_append, List.length_cons, true_and, and_true, ne_eq, not_true_eq_false, not_false_eq_true, false_implies, true_implies, implies_true, List.append_assoc]
  repeat' (first | with_reducible apply And.intro | intro _)
  all_goals first
    | exact ⟨_, _, _, _, _, _, _, _, _, _, _, _, _, rfl, hk⟩
    | trivial
    | rfl
    | omega
    | (simp at *; done)
    | (simp at *; omega)
end Go.Proofs.Ytbmbiiiacajolaa
