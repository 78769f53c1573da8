/- Finds of none: the contracts hold, by the tower's height. -/
import Derived.Test.YtbmbiiiacajolaaNaV
namespace Go.Proofs.Ytbmbiiiacajolaa
set_option linter.unusedVariables false
set_option linter.unusedSimpArgs false
set_option linter.unusedSectionVars false
open Go Go.RowKit

set_option maxRecDepth 100000 in
set_option maxHeartbeats 40000000 in
theorem vFNB (P : Program) : ∀ ins, ins.length = (cFNone 2).nin → (cFNone 2).pre ins → tFNB.sat (cxNT P) (ctrR (cFNone 2)) ins := by
  rintro ins _ ⟨a0, a1, a2, a3, a4, a5, a6, a7, a8, a9, a10, a11, a12, k, rfl, rfl, hk⟩
  have hh := okT_t hk
  have e1 : IntKind.i64.wrap (IntKind.i64.wrap (a1 + 0) + 0) = a1 := by rw [Int.add_zero a1, wrap_small (n := a1) (by omega) (by omega), Int.add_zero, wrap_small (n := a1) (by omega) (by omega)]
  simp only [Tree.sat, Bx.den, Ex.den, Bnd.den, gI, gB, gL, gF, gN, gNil, List.map_cons, List.map_nil, List.cons_append, List.nil_append, List.getElem?_cons_zero, List.getElem?_cons_succ, List.getD, Option.getD_some, cmp_eql_t, cmp_eql_f, cmp_neq_t, cmp_neq_f, cmp_lss_t, cmp_lss_f, cmp_leq_t, cmp_leq_f, cmp_gtr_t, cmp_gtr_f, cmp_geq_t, cmp_geq_f, Bool.not_eq_true', Bool.not_eq_false', Bool.and_eq_true, Bool.and_eq_false_iff, binDen, ctrR, Ctr.may, List.take_succ_cons, List.take_zero, Option.some.injEq, EV.u.injEq, tFNB, cx, cxNT, ctsNT, cSt, cRSt, cSnd, boolC, cFNone, e1, List.take_zero, List.nil_append, List.length_cons, true_and, and_true, ne_eq, not_true_eq_false, not_false_eq_true, false_implies, true_implies, implies_true, List.append_assoc]
  repeat' (first | with_reducible apply And.intro | intro _)
  all_goals first
    | exact ⟨_, _, _, _, _, _, _, _, _, _, _, _, _, rfl, hk⟩
    | trivial
    | rfl
    | omega
    | (simp at *; done)
    | (simp at *; omega)
set_option maxRecDepth 100000 in
set_option maxHeartbeats 40000000 in
theorem vFNC (P : Program) : ∀ ins, ins.length = (cFNone 3).nin → (cFNone 3).pre ins → tFNC.sat (cxNT P) (ctrR (cFNone 3)) ins := by
  rintro ins _ ⟨a0, a1, a2, a3, a4, a5, a6, a7, a8, a9, a10, a11, a12, k, rfl, rfl, hk⟩
  have hh := okT_t hk
  have e1 : IntKind.i64.wrap (IntKind.i64.wrap (a1 + 0) + 0) = a1 := by rw [Int.add_zero a1, wrap_small (n := a1) (by omega) (by omega), Int.add_zero, wrap_small (n := a1) (by omega) (by omega)]
  simp only [Tree.sat, Bx.den, Ex.den, Bnd.den, gI, gB, gL, gF, gN, gNil, List.map_cons, List.map_nil, List.cons_append, List.nil_append, List.getElem?_cons_zero, List.getElem?_cons_succ, List.getD, Option.getD_some, cmp_eql_t, cmp_eql_f, cmp_neq_t, cmp_neq_f, cmp_lss_t, cmp_lss_f, cmp_leq_t, cmp_leq_f, cmp_gtr_t, cmp_gtr_f, cmp_geq_t, cmp_geq_f, Bool.not_eq_true', Bool.not_eq_false', Bool.and_eq_true, Bool.and_eq_false_iff, binDen, ctrR, Ctr.may, List.take_succ_cons, List.take_zero, Option.some.injEq, EV.u.injEq, tFNC, cx, cxNT, ctsNT, cSt, cRSt, cSnd, boolC, cFNone, e1, List.take_zero, List.nil_append, List.length_cons, true_and, and_true, ne_eq, not_true_eq_false, not_false_eq_true, false_implies, true_implies, implies_true, List.append_assoc]
  repeat' (first | with_reducible apply And.intro | intro _)
  all_goals first
    | exact ⟨_, _, _, _, _, _, _, _, _, _, _, _, _, rfl, hk⟩
    | trivial
    | rfl
    | omega
    | (simp at *; done)
    | (simp at *; omega)
set_option maxRecDepth 100000 in
set_option maxHeartbeats 40000000 in
theorem vFND (P : Program) : ∀ ins, ins.length = (cFNone 4).nin → (cFNone 4).pre ins → tFND.sat (cxNT P) (ctrR (cFNone 4)) ins := by
  rintro ins _ ⟨a0, a1, a2, a3, a4, a5, a6, a7, a8, a9, a10, a11, a12, k, rfl, rfl, hk⟩
  have hh := okT_t hk
  have e1 : IntKind.i64.wrap (IntKind.i64.wrap (a1 + 0) + 0) = a1 := by rw [Int.add_zero a1, wrap_small (n := a1) (by omega) (by omega), Int.add_zero, wrap_small (n := a1) (by omega) (by omega)]
  simp only [Tree.sat, Bx.den, Ex.den, Bnd.den, gI, gB, gL, gF, gN, gNil, List.map_cons, List.map_nil, List.cons_append, List.nil_append, List.getElem?_cons_zero, List.getElem?_cons_succ, List.getD, Option.getD_some, cmp_eql_t, cmp_eql_f, cmp_neq_t, cmp_neq_f, cmp_lss_t, cmp_lss_f, cmp_leq_t, cmp_leq_f, cmp_gtr_t, cmp_gtr_f, cmp_geq_t, cmp_geq_f, Bool.not_eq_true', Bool.not_eq_false', Bool.and_eq_true, Bool.and_eq_false_iff, binDen, ctrR, Ctr.may, List.take_succ_cons, List.take_zero, Option.some.injEq, EV.u.injEq, tFND, cx, cxNT, ctsNT, cSt, cRSt, cSnd, boolC, cFNone, e1, List.take_zero, List.nil_append, List.length_cons, true_and, and_true, ne_eq, not_true_eq_false, not_false_eq_true, false_implies, true_implies, implies_true, List.append_assoc]
  repeat' (first | with_reducible apply And.intro | intro _)
  all_goals first
    | exact ⟨_, _, _, _, _, _, _, _, _, _, _, _, _, rfl, hk⟩
    | trivial
    | rfl
    | omega
    | (simp at *; done)
    | (simp at *; omega)
end Go.Proofs.Ytbmbiiiacajolaa
