/- Contracts of the laws' helpers hold. -/
import Derived.Test.YtbkaclkbjpdfnaaCoT
namespace Go.Proofs.Ytbkaclkbjpdfnaa
set_option linter.unusedVariables false
set_option linter.unusedSimpArgs false
set_option linter.unusedSectionVars false
open Go

set_option maxHeartbeats 1000000 in
theorem vDoes (P : Program) (hs : List (Nat × Nat × List Nat)) : ∀ ins, ins.length = cDoes.nin → cDoes.pre ins → tDoes.sat { cx P ctsC with hints := hs } (ctrR cDoes) ins := by
  rintro ins _ ⟨M, k, a, o, n, rfl⟩
  simp only [Tree.sat, Bx.den, Ex.den, Bnd.den, gI, gB, gL, gF, gN, gNil, List.map_cons, List.map_nil, List.cons_append, List.nil_append, List.getElem?_cons_zero, List.getElem?_cons_succ, List.getD, Option.getD_some, cmp_eql_t, cmp_eql_f, cmp_neq_t, cmp_neq_f, cmp_lss_t, cmp_lss_f, cmp_leq_t, cmp_leq_f, cmp_gtr_t, cmp_gtr_f, cmp_geq_t, cmp_geq_f, Bool.not_eq_true', Bool.not_eq_false', Bool.and_eq_true, Bool.and_eq_false_iff, binDen, ctrR, List.take_succ_cons, List.take_zero, Option.some.injEq, EV.u.injEq, tDoes, cx, ctsC, cDoes, pre_load, pre_store, pre_cas, pre_add, true_and, out_load, out_store, out_cas, out_add, List.append_assoc]
  repeat' (first | with_reducible apply And.intro | intro _)
  all_goals simp_all [doesM, doesT]
theorem hDoes : cDoes.Holds objs Try.prog := runCtr_holds (X := cx Try.prog ctsC) objsOk mixed hctsC (callable _ Try.func34 (by kernel_rfl) (by kernel_rfl)) (by rintro ins _ ⟨_, _, _, _, _, rfl⟩; rfl) (by rw [rDoes]; exact vDoes _ _)
set_option maxHeartbeats 1000000 in
theorem vAlike (P : Program) (hs : List (Nat × Nat × List Nat)) : ∀ ins, ins.length = cAlike.nin → cAlike.pre ins → tAlike.sat { cx P ctsC with hints := hs } (ctrR cAlike) ins := by
  rintro ins _ ⟨M, rfl, hM⟩
  simp only [Tree.sat, Bx.den, Ex.den, Bnd.den, gI, gB, gL, gF, gN, gNil, List.map_cons, List.map_nil, List.cons_append, List.nil_append, List.getElem?_cons_zero, List.getElem?_cons_succ, List.getD, Option.getD_some, cmp_eql_t, cmp_eql_f, cmp_neq_t, cmp_neq_f, cmp_lss_t, cmp_lss_f, cmp_leq_t, cmp_leq_f, cmp_gtr_t, cmp_gtr_f, cmp_geq_t, cmp_geq_f, Bool.not_eq_true', Bool.not_eq_false', Bool.and_eq_true, Bool.and_eq_false_iff, binDen, ctrR, List.take_succ_cons, List.take_zero, Option.some.injEq, EV.u.injEq, tAlike, cx, ctsC, cAlike, Nil.isNil, pre_last, pre_count, pre_size, pre_words, true_and, out_last, out_count, out_size, out_words, out_same, List.append_assoc, ne_eq, not_true_eq_false, false_implies, false_or, or_self, and_true, decide_true, beq_self_eq_true, Bool.not_true, reduceCtorEq, true_implies, implies_true, not_false_eq_true]
  repeat' (first | with_reducible apply And.intro | intro _)
  all_goals first
    | exact pre_same rfl rfl (by omega)
    | omega
theorem hAlike : cAlike.Holds objs Try.prog := runCtr_holds (X := cx Try.prog ctsC) objsOk mixed hctsC (callable _ Try.func45 (by kernel_rfl) (by kernel_rfl)) (by rintro ins _ ⟨_, rfl, _⟩; rfl) (by rw [rAlike]; exact vAlike _ _)
end Go.Proofs.Ytbkaclkbjpdfnaa
