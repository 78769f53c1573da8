/- One Pass alone: the contracts hold. -/
import Derived.Test.YtjohihkbampbgaaGpT
namespace Go.Proofs.Ytjohihkbampbgaa
set_option linter.unusedVariables false
set_option linter.unusedSimpArgs false
set_option linter.unusedSectionVars false
open Go

theorem wrap_u64 {n : Int} (h : 0 ≤ n) (h1 : n < 18446744073709551616) : IntKind.u64.wrap n = n := by rw [IntKind.wrap_u64]; omega
set_option maxHeartbeats 1000000 in
theorem vPass1 (P : Program) (hs : List (Nat × Nat × List Nat)) : ∀ ins, ins.length = cPass1.nin → cPass1.pre ins → tPass1.sat { cxP P with hints := hs } (ctrR cPass1) ins := by
  rintro ins _ ⟨M, a, n, rfl, h1, h2, h3, h4⟩
  have e1 := wrap_u64 (n := a) h1 (by omega)
  have e2 := wrap_u64 (n := n) h3 (by omega)
  simp only [Tree.sat, Bx.den, Ex.den, Bnd.den, gI, gB, gL, gF, gN, gNil, List.map_cons, List.map_nil, List.cons_append, List.nil_append, List.getElem?_cons_zero, List.getElem?_cons_succ, List.getD, Option.getD_some, cmp_eql_t, cmp_eql_f, cmp_neq_t, cmp_neq_f, cmp_lss_t, cmp_lss_f, cmp_leq_t, cmp_leq_f, cmp_gtr_t, cmp_gtr_f, cmp_geq_t, cmp_geq_f, Bool.not_eq_true', Bool.not_eq_false', Bool.and_eq_true, Bool.and_eq_false_iff, binDen, ctrR, Ctr.may, List.take_succ_cons, List.take_zero, Option.some.injEq, EV.u.injEq, tPass1, cxP, cx, ctsM, cPass1, pre_load, out_load, e1, e2, soonB, true_and, ne_eq, not_true_eq_false, false_implies, true_implies, implies_true]
  repeat' (first | with_reducible apply And.intro | intro _)
  all_goals first
    | omega
    | (simp [*]; done)
    | (simp [*]; omega)
    | grind
set_option maxHeartbeats 1000000 in
theorem vPass2 (P : Program) (hs : List (Nat × Nat × List Nat)) : ∀ ins, ins.length = cPass2.nin → cPass2.pre ins → tPass2.sat { cxP P with hints := hs } (ctrR cPass2) ins := by
  rintro ins _ ⟨M, a, n, rfl, h1, h2, h3, h4⟩
  have e1 := wrap_u64 (n := a) h1 (by omega)
  have e2 := wrap_u64 (n := n) h3 (by omega)
  simp only [Tree.sat, Bx.den, Ex.den, Bnd.den, gI, gB, gL, gF, gN, gNil, List.map_cons, List.map_nil, List.cons_append, List.nil_append, List.getElem?_cons_zero, List.getElem?_cons_succ, List.getD, Option.getD_some, cmp_eql_t, cmp_eql_f, cmp_neq_t, cmp_neq_f, cmp_lss_t, cmp_lss_f, cmp_leq_t, cmp_leq_f, cmp_gtr_t, cmp_gtr_f, cmp_geq_t, cmp_geq_f, Bool.not_eq_true', Bool.not_eq_false', Bool.and_eq_true, Bool.and_eq_false_iff, binDen, ctrR, Ctr.may, List.take_succ_cons, List.take_zero, Option.some.injEq, EV.u.injEq, tPass2, cxP, cx, ctsM, cPass2, pre_load, out_load, pre_cas, out_cas, e1, e2, pass2M, pass2B, soonB, true_and, ne_eq, not_true_eq_false, false_implies, true_implies, implies_true]
  repeat' (first | with_reducible apply And.intro | intro _)
  all_goals first
    | omega
    | (simp [*]; done)
    | (simp [*]; omega)
    | grind
set_option maxHeartbeats 1000000 in
theorem vLastG (P : Program) (hs : List (Nat × Nat × List Nat)) : ∀ ins, ins.length = cLastG.nin → cLastG.pre ins → tLastG.sat { cxP P with hints := hs } (ctrR cLastG) ins := by
  rintro ins _ ⟨M, f, n, t, rfl⟩
  simp only [Tree.sat, Bx.den, Ex.den, Bnd.den, gI, gB, gL, gF, gN, gNil, List.map_cons, List.map_nil, List.cons_append, List.nil_append, List.getElem?_cons_zero, List.getElem?_cons_succ, List.getD, Option.getD_some, cmp_eql_t, cmp_eql_f, cmp_neq_t, cmp_neq_f, cmp_lss_t, cmp_lss_f, cmp_leq_t, cmp_leq_f, cmp_gtr_t, cmp_gtr_f, cmp_geq_t, cmp_geq_f, Bool.not_eq_true', Bool.not_eq_false', Bool.and_eq_true, Bool.and_eq_false_iff, binDen, ctrR, Ctr.may, List.take_succ_cons, List.take_zero, Option.some.injEq, EV.u.injEq, tLastG, cxP, cx, ctsM, cLastG, pre_words, out_words, true_and, ne_eq, not_true_eq_false, false_implies, true_implies, implies_true, List.append_assoc]
  repeat' (first | with_reducible apply And.intro | intro _)
  all_goals first
    | omega
    | (rw [show gLast M f n t = none by unfold gLast; first | (rw [if_pos (by omega)]) | (rw [if_neg (by omega), if_pos (by omega)])]; rfl)
    | (rw [show gLast M f n t = some (IntKind.i64.wrap (IntKind.u64.wrap (M.W[(IntKind.i64.wrap (f + t)).toNat]?.getD 0 - 1))) by unfold gLast; rw [if_neg (by omega), if_neg (by omega)]]; rfl)
theorem hLastG : cLastG.Holds objs Try.prog := runCtr_holds (X := cxP Try.prog) objsOk mixed hctsM (callable _ Try.func24 (by kernel_rfl) (by kernel_rfl)) (by rintro ins _ ⟨_, _, _, _, rfl⟩; rfl) (by rw [rLastG]; exact vLastG _ _)
theorem hPass1 : cPass1.Holds objs Try.prog := runCtr_holds (X := cxP Try.prog) objsOk mixed hctsM (callable _ Try.func27 (by kernel_rfl) (by kernel_rfl)) (by rintro ins _ ⟨_, _, _, rfl, _⟩; rfl) (by rw [rPass1]; exact vPass1 _ _)
theorem hPass2 : cPass2.Holds objs Try.prog := runCtr_holds (X := cxP Try.prog) objsOk mixed hctsM (callable _ Try.func27 (by kernel_rfl) (by kernel_rfl)) (by rintro ins _ ⟨_, _, _, rfl, _⟩; rfl) (by rw [rPass2]; exact vPass2 _ _)
end Go.Proofs.Ytjohihkbampbgaa
