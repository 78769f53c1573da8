/- Epochs: the chapter's law beside the document: the first loop. -/
import Derived.Test.YtjohihkbampbgaaEha
import Derived.Test.YtjohihkbampbgaaEhb
import Derived.Test.YtjohihkbampbgaaEhc
import Derived.Test.YtjohihkbampbgaaEhd
namespace Go.Proofs.Ytjohihkbampbgaa
set_option linter.unusedVariables false
set_option linter.unusedSimpArgs false
set_option linter.unusedSectionVars false
open Go Go.RowKit

theorem bESteps0 (P : Program) (hs : List (Nat × Nat × List Nat)) : ∀ env, es2Inv env → tEStepsL0.sat { cxEG P with hints := hs } (ctrR cESteps) env := by
  rintro env ⟨a, b, n, s, gi, ki, ci, gl, kl, cl, x0, x1, x2, x3, x4, x5, x6, x7, x8, x9, x10, x11, M, o0, o1, o2, o3, i, rfl, h1, h2, h3, h4, hM, h5, k0, k1, k2, k3⟩
  rcases pick4 (x := gl i.toNat 0) with hp | hp | hp | hp
  · exact bESteps0a P hs h1 h2 h3 h4 hM h5 k0 k1 k2 k3 hp
  · exact bESteps0b P hs h1 h2 h3 h4 hM h5 k0 k1 k2 k3 hp
  · exact bESteps0c P hs h1 h2 h3 h4 hM h5 k0 k1 k2 k3 hp
  · exact bESteps0d P hs h1 h2 h3 h4 hM h5 k0 k1 k2 k3 hp
set_option maxRecDepth 10000 in
set_option maxHeartbeats 8000000 in
theorem bESteps1 (P : Program) (hs : List (Nat × Nat × List Nat)) : ∀ env, es1Inv env → tEStepsL1.sat { cxEG P with hints := hs } (ctrR cESteps) env := by
  rintro env ⟨a, b, n, s, gi, ki, ci, gl, kl, cl, x0, x1, x2, x3, x4, x5, x6, x7, x8, M, i, rfl, h1, h2, h3, h4, h5, hM, hw, h6⟩
  unfold tEStepsL1
  repeat' (first
    | (first
      | (with_reducible refine st_need ?_ ?_
         focus (simp only [Bx.den, Ex.den, Bnd.den, gI, gB, gL, gF, gN, gNil, List.map_cons, List.map_nil, List.cons_append, List.nil_append, List.getElem?_cons_zero, List.getElem?_cons_succ, List.getD, Option.getD_some, cmp_eql_t, cmp_eql_f, cmp_neq_t, cmp_neq_f, cmp_lss_t, cmp_lss_f, cmp_leq_t, cmp_leq_f, cmp_gtr_t, cmp_gtr_f, cmp_geq_t, cmp_geq_f, Bool.not_eq_true', Bool.not_eq_false', Bool.and_eq_true, Bool.and_eq_false_iff, binDen, Option.some.injEq, EV.u.injEq, Nil.isNil, beq_self_eq_true, and_self, true_and, and_true, or_false, false_or, or_self, not_true_eq_false, not_false_eq_true, ne_eq, Bool.true_eq_false, Bool.false_eq_true, reduceCtorEq, h1] <;> first | omega | assumption))
      | (with_reducible refine st_and ?_ ?_)
      | (with_reducible exact st_ok)
      | (with_reducible refine st_br (fun hc => ?_) (fun hc => ?_) <;> (simp only [Bx.den, Ex.den, Bnd.den, gI, gB, gL, gF, gN, gNil, List.map_cons, List.map_nil, List.cons_append, List.nil_append, List.getElem?_cons_zero, List.getElem?_cons_succ, List.getD, Option.getD_some, cmp_eql_t, cmp_eql_f, cmp_neq_t, cmp_neq_f, cmp_lss_t, cmp_lss_f, cmp_leq_t, cmp_leq_f, cmp_gtr_t, cmp_gtr_f, cmp_geq_t, cmp_geq_f, Bool.not_eq_true', Bool.not_eq_false', Bool.and_eq_true, Bool.and_eq_false_iff, binDen, Option.some.injEq, EV.u.injEq, Nil.isNil, beq_self_eq_true, and_self, true_and, and_true, or_false, false_or, or_self, not_true_eq_false, not_false_eq_true, ne_eq, Bool.true_eq_false, Bool.false_eq_true, reduceCtorEq, h1] at hc) <;> (try (exfalso; first | contradiction | omega)))
      | (refine st_call (by rfl) (by simp only [Bx.den, Ex.den, Bnd.den, gI, gB, gL, gF, gN, gNil, List.map_cons, List.map_nil, List.cons_append, List.nil_append, List.getElem?_cons_zero, List.getElem?_cons_succ, List.getD, Option.getD_some, cmp_eql_t, cmp_eql_f, cmp_neq_t, cmp_neq_f, cmp_lss_t, cmp_lss_f, cmp_leq_t, cmp_leq_f, cmp_gtr_t, cmp_gtr_f, cmp_geq_t, cmp_geq_f, Bool.not_eq_true', Bool.not_eq_false', Bool.and_eq_true, Bool.and_eq_false_iff, binDen, Option.some.injEq, EV.u.injEq, Nil.isNil, beq_self_eq_true, and_self, true_and, and_true, or_false, false_or, or_self, not_true_eq_false, not_false_eq_true, ne_eq, Bool.true_eq_false, Bool.false_eq_true, reduceCtorEq, h1] <;> rfl) ?_ (by simp only [out_store, fo_store] <;> rfl) (by simp only [List.cons_append, List.nil_append] <;> rfl) ?_
         focus (first | exact ⟨_, _, _, rfl⟩ | exact fl_store hM))
      | (with_reducible refine st_ret (by simp only [Bx.den, Ex.den, Bnd.den, gI, gB, gL, gF, gN, gNil, List.map_cons, List.map_nil, List.cons_append, List.nil_append, List.getElem?_cons_zero, List.getElem?_cons_succ, List.getD, Option.getD_some, cmp_eql_t, cmp_eql_f, cmp_neq_t, cmp_neq_f, cmp_lss_t, cmp_lss_f, cmp_leq_t, cmp_leq_f, cmp_gtr_t, cmp_gtr_f, cmp_geq_t, cmp_geq_f, Bool.not_eq_true', Bool.not_eq_false', Bool.and_eq_true, Bool.and_eq_false_iff, binDen, Option.some.injEq, EV.u.injEq, Nil.isNil, beq_self_eq_true, and_self, true_and, and_true, or_false, false_or, or_self, not_true_eq_false, not_false_eq_true, ne_eq, Bool.true_eq_false, Bool.false_eq_true, reduceCtorEq, h1] <;> rfl) ?_
         (first | rfl | exact ⟨_, rfl⟩)))
    | with_reducible refine mk_epinNil rfl (by simp only [List.cons_append, List.nil_append] <;> rfl) ?_
    | with_reducible refine mk_repinNil rfl (by simp only [List.cons_append, List.nil_append] <;> rfl) ?_
    | with_reducible refine mk_eunpNil rfl (by simp only [List.cons_append, List.nil_append] <;> rfl) ?_
    | with_reducible refine mk_reunpNil rfl (by simp only [List.cons_append, List.nil_append] <;> rfl) ?_
    | with_reducible refine mk_eadvNil rfl (by simp only [List.cons_append, List.nil_append] <;> rfl) ?_
    | with_reducible refine mk_readvNil rfl (by simp only [List.cons_append, List.nil_append] <;> rfl) ?_
    | (refine st_back (by rfl) (by simp only [Bx.den, Ex.den, Bnd.den, gI, gB, gL, gF, gN, gNil, List.map_cons, List.map_nil, List.cons_append, List.nil_append, List.getElem?_cons_zero, List.getElem?_cons_succ, List.getD, Option.getD_some, cmp_eql_t, cmp_eql_f, cmp_neq_t, cmp_neq_f, cmp_lss_t, cmp_lss_f, cmp_leq_t, cmp_leq_f, cmp_gtr_t, cmp_gtr_f, cmp_geq_t, cmp_geq_f, Bool.not_eq_true', Bool.not_eq_false', Bool.and_eq_true, Bool.and_eq_false_iff, binDen, Option.some.injEq, EV.u.injEq, Nil.isNil, beq_self_eq_true, and_self, true_and, and_true, or_false, false_or, or_self, not_true_eq_false, not_false_eq_true, ne_eq, Bool.true_eq_false, Bool.false_eq_true, reduceCtorEq, h1] <;> rfl) (by simp only [List.take_succ_cons, List.take_zero] <;> rfl) (by rfl) ?_ ?_
       focus (rw [wrap_small (n := i + 1) (by omega) (by omega)]
              exact ⟨_, _, _, _, _, _, _, _, _, _, _, _, _, _, _, _, _, _, _, _, _, rfl, by omega, by omega, h3, h4, by rw [len_store]; exact h5, fine_store hM (hw _ (by omega)), hw, h6⟩)
       focus (rw [wrap_small (n := i + 1) (by omega) (by omega)]; show ((ki : Int) - (i + 1)).toNat < ((ki : Int) - i).toNat; omega))
    | (refine st_loop (by rfl) (by simp only [Bx.den, Ex.den, Bnd.den, gI, gB, gL, gF, gN, gNil, List.map_cons, List.map_nil, List.cons_append, List.nil_append, List.getElem?_cons_zero, List.getElem?_cons_succ, List.getD, Option.getD_some, cmp_eql_t, cmp_eql_f, cmp_neq_t, cmp_neq_f, cmp_lss_t, cmp_lss_f, cmp_leq_t, cmp_leq_f, cmp_gtr_t, cmp_gtr_f, cmp_geq_t, cmp_geq_f, Bool.not_eq_true', Bool.not_eq_false', Bool.and_eq_true, Bool.and_eq_false_iff, binDen, Option.some.injEq, EV.u.injEq, Nil.isNil, beq_self_eq_true, and_self, true_and, and_true, or_false, false_or, or_self, not_true_eq_false, not_false_eq_true, ne_eq, Bool.true_eq_false, Bool.false_eq_true, reduceCtorEq, h1] <;> rfl) (by simp only [List.take_succ_cons, List.take_zero] <;> rfl) ?_ (fun env' h => bESteps0 P hs env' h)
       exact ⟨_, _, _, _, _, _, _, _, _, _, _, _, _, _, _, _, _, _, _, _, _, _, _, .none, .none, .none, .none, _, rfl, by omega, by omega, h4, h5, hM, h6, trivial, trivial, trivial, trivial⟩))
end Go.Proofs.Ytjohihkbampbgaa
