/- Epochs: the chapter's law beside the document: it holds. -/
import Derived.Test.YtjohihkbampbgaaEi
namespace Go.Proofs.Ytjohihkbampbgaa
set_option linter.unusedVariables false
set_option linter.unusedSimpArgs false
set_option linter.unusedSectionVars false
open Go Go.RowKit

set_option maxRecDepth 10000 in
set_option maxHeartbeats 8000000 in
theorem vESteps (P : Program) (hs : List (Nat × Nat × List Nat)) : ∀ ins, ins.length = cESteps.nin → cESteps.pre ins → tESteps.sat { cxEG P with hints := hs } (ctrR cESteps) ins := by
  rintro ins _ ⟨a, b, n, s, gi, ki, ci, gl, kl, cl, rfl, hw⟩
  by_cases h0 : fitsE a b n s = 0
  · have hs1 := fitsE_ok h0
    have e1 := out_new hs1.1 hs1.2.1
    have e2 := out_qnew hs1.1 hs1.2.1
    have e3 : ((MemSt.new s).W.length : Int) = s := by show ((List.replicate s.toNat (0 : Int)).length : Int) = s; rw [List.length_replicate]; omega
    unfold tESteps
    repeat' (first
      | (first
        | (with_reducible refine st_need ?_ ?_
           focus (simp only [Bx.den, Ex.den, Bnd.den, gI, gB, gL, gF, gN, gNil, List.map_cons, List.map_nil, List.cons_append, List.nil_append, List.getElem?_cons_zero, List.getElem?_cons_succ, List.getD, Option.getD_some, cmp_eql_t, cmp_eql_f, cmp_neq_t, cmp_neq_f, cmp_lss_t, cmp_lss_f, cmp_leq_t, cmp_leq_f, cmp_gtr_t, cmp_gtr_f, cmp_geq_t, cmp_geq_f, Bool.not_eq_true', Bool.not_eq_false', Bool.and_eq_true, Bool.and_eq_false_iff, binDen, Option.some.injEq, EV.u.injEq, Nil.isNil, beq_self_eq_true, and_self, true_and, and_true, or_false, false_or, or_self, not_true_eq_false, not_false_eq_true, ne_eq, Bool.true_eq_false, Bool.false_eq_true, reduceCtorEq, h0] <;> first | omega | assumption))
        | (with_reducible refine st_and ?_ ?_)
        | (with_reducible exact st_ok)
        | (with_reducible refine st_br (fun hc => ?_) (fun hc => ?_) <;> (simp only [Bx.den, Ex.den, Bnd.den, gI, gB, gL, gF, gN, gNil, List.map_cons, List.map_nil, List.cons_append, List.nil_append, List.getElem?_cons_zero, List.getElem?_cons_succ, List.getD, Option.getD_some, cmp_eql_t, cmp_eql_f, cmp_neq_t, cmp_neq_f, cmp_lss_t, cmp_lss_f, cmp_leq_t, cmp_leq_f, cmp_gtr_t, cmp_gtr_f, cmp_geq_t, cmp_geq_f, Bool.not_eq_true', Bool.not_eq_false', Bool.and_eq_true, Bool.and_eq_false_iff, binDen, Option.some.injEq, EV.u.injEq, Nil.isNil, beq_self_eq_true, and_self, true_and, and_true, or_false, false_or, or_self, not_true_eq_false, not_false_eq_true, ne_eq, Bool.true_eq_false, Bool.false_eq_true, reduceCtorEq, h0] at hc) <;> (try (exfalso; first | contradiction | omega)))
        | (refine st_call (by rfl) (by simp only [Bx.den, Ex.den, Bnd.den, gI, gB, gL, gF, gN, gNil, List.map_cons, List.map_nil, List.cons_append, List.nil_append, List.getElem?_cons_zero, List.getElem?_cons_succ, List.getD, Option.getD_some, cmp_eql_t, cmp_eql_f, cmp_neq_t, cmp_neq_f, cmp_lss_t, cmp_lss_f, cmp_leq_t, cmp_leq_f, cmp_gtr_t, cmp_gtr_f, cmp_geq_t, cmp_geq_f, Bool.not_eq_true', Bool.not_eq_false', Bool.and_eq_true, Bool.and_eq_false_iff, binDen, Option.some.injEq, EV.u.injEq, Nil.isNil, beq_self_eq_true, and_self, true_and, and_true, or_false, false_or, or_self, not_true_eq_false, not_false_eq_true, ne_eq, Bool.true_eq_false, Bool.false_eq_true, reduceCtorEq, h0] <;> rfl) ?_ (by simp only [out_efits, out_qefits, out_eawake, e1, e2, out_efill, out_qefill] <;> rfl) (by simp only [List.cons_append, List.nil_append] <;> rfl) ?_
           focus (first | exact ⟨_, _, _, _, rfl⟩ | exact ⟨_, _, _, _, rfl, fine_new hs1.2.1⟩ | rfl | exact ⟨_, rfl⟩))
        | (with_reducible refine st_ret (by simp only [Bx.den, Ex.den, Bnd.den, gI, gB, gL, gF, gN, gNil, List.map_cons, List.map_nil, List.cons_append, List.nil_append, List.getElem?_cons_zero, List.getElem?_cons_succ, List.getD, Option.getD_some, cmp_eql_t, cmp_eql_f, cmp_neq_t, cmp_neq_f, cmp_lss_t, cmp_lss_f, cmp_leq_t, cmp_leq_f, cmp_gtr_t, cmp_gtr_f, cmp_geq_t, cmp_geq_f, Bool.not_eq_true', Bool.not_eq_false', Bool.and_eq_true, Bool.and_eq_false_iff, binDen, Option.some.injEq, EV.u.injEq, Nil.isNil, beq_self_eq_true, and_self, true_and, and_true, or_false, false_or, or_self, not_true_eq_false, not_false_eq_true, ne_eq, Bool.true_eq_false, Bool.false_eq_true, reduceCtorEq, h0] <;> rfl) ?_
           (first | rfl | exact ⟨_, rfl⟩)))
      | (refine st_loop (by rfl) (by simp only [Bx.den, Ex.den, Bnd.den, gI, gB, gL, gF, gN, gNil, List.map_cons, List.map_nil, List.cons_append, List.nil_append, List.getElem?_cons_zero, List.getElem?_cons_succ, List.getD, Option.getD_some, cmp_eql_t, cmp_eql_f, cmp_neq_t, cmp_neq_f, cmp_lss_t, cmp_lss_f, cmp_leq_t, cmp_leq_f, cmp_gtr_t, cmp_gtr_f, cmp_geq_t, cmp_geq_f, Bool.not_eq_true', Bool.not_eq_false', Bool.and_eq_true, Bool.and_eq_false_iff, binDen, Option.some.injEq, EV.u.injEq, Nil.isNil, beq_self_eq_true, and_self, true_and, and_true, or_false, false_or, or_self, not_true_eq_false, not_false_eq_true, ne_eq, Bool.true_eq_false, Bool.false_eq_true, reduceCtorEq, h0] <;> rfl) (by simp only [List.take_succ_cons, List.take_zero] <;> rfl) ?_ (fun env' h => bESteps1 P hs env' h)
         exact ⟨_, _, _, _, _, _, _, _, _, _, _, _, _, _, _, _, _, _, _, _, _, rfl, by omega, by omega, by omega, by omega, by rw [len_fillE]; omega, fine_fillE (fine_new hs1.2.1) _ _ _, hw, h0⟩))
  · unfold tESteps
    repeat' (first
      | (first
        | (with_reducible refine st_need ?_ ?_
           focus (simp only [Bx.den, Ex.den, Bnd.den, gI, gB, gL, gF, gN, gNil, List.map_cons, List.map_nil, List.cons_append, List.nil_append, List.getElem?_cons_zero, List.getElem?_cons_succ, List.getD, Option.getD_some, cmp_eql_t, cmp_eql_f, cmp_neq_t, cmp_neq_f, cmp_lss_t, cmp_lss_f, cmp_leq_t, cmp_leq_f, cmp_gtr_t, cmp_gtr_f, cmp_geq_t, cmp_geq_f, Bool.not_eq_true', Bool.not_eq_false', Bool.and_eq_true, Bool.and_eq_false_iff, binDen, Option.some.injEq, EV.u.injEq, Nil.isNil, beq_self_eq_true, and_self, true_and, and_true, or_false, false_or, or_self, not_true_eq_false, not_false_eq_true, ne_eq, Bool.true_eq_false, Bool.false_eq_true, reduceCtorEq, h0] <;> first | omega | assumption))
        | (with_reducible refine st_and ?_ ?_)
        | (with_reducible exact st_ok)
        | (with_reducible refine st_br (fun hc => ?_) (fun hc => ?_) <;> (simp only [Bx.den, Ex.den, Bnd.den, gI, gB, gL, gF, gN, gNil, List.map_cons, List.map_nil, List.cons_append, List.nil_append, List.getElem?_cons_zero, List.getElem?_cons_succ, List.getD, Option.getD_some, cmp_eql_t, cmp_eql_f, cmp_neq_t, cmp_neq_f, cmp_lss_t, cmp_lss_f, cmp_leq_t, cmp_leq_f, cmp_gtr_t, cmp_gtr_f, cmp_geq_t, cmp_geq_f, Bool.not_eq_true', Bool.not_eq_false', Bool.and_eq_true, Bool.and_eq_false_iff, binDen, Option.some.injEq, EV.u.injEq, Nil.isNil, beq_self_eq_true, and_self, true_and, and_true, or_false, false_or, or_self, not_true_eq_false, not_false_eq_true, ne_eq, Bool.true_eq_false, Bool.false_eq_true, reduceCtorEq, h0] at hc) <;> (try (exfalso; first | contradiction | omega)))
        | (refine st_call (by rfl) (by simp only [Bx.den, Ex.den, Bnd.den, gI, gB, gL, gF, gN, gNil, List.map_cons, List.map_nil, List.cons_append, List.nil_append, List.getElem?_cons_zero, List.getElem?_cons_succ, List.getD, Option.getD_some, cmp_eql_t, cmp_eql_f, cmp_neq_t, cmp_neq_f, cmp_lss_t, cmp_lss_f, cmp_leq_t, cmp_leq_f, cmp_gtr_t, cmp_gtr_f, cmp_geq_t, cmp_geq_f, Bool.not_eq_true', Bool.not_eq_false', Bool.and_eq_true, Bool.and_eq_false_iff, binDen, Option.some.injEq, EV.u.injEq, Nil.isNil, beq_self_eq_true, and_self, true_and, and_true, or_false, false_or, or_self, not_true_eq_false, not_false_eq_true, ne_eq, Bool.true_eq_false, Bool.false_eq_true, reduceCtorEq, h0] <;> rfl) ?_ (by simp only [out_efits, out_qefits, out_eawake] <;> rfl) (by simp only [List.cons_append, List.nil_append] <;> rfl) ?_
           focus (first | exact ⟨_, _, _, _, rfl⟩ | rfl | exact ⟨_, rfl⟩))
        | (with_reducible refine st_ret (by simp only [Bx.den, Ex.den, Bnd.den, gI, gB, gL, gF, gN, gNil, List.map_cons, List.map_nil, List.cons_append, List.nil_append, List.getElem?_cons_zero, List.getElem?_cons_succ, List.getD, Option.getD_some, cmp_eql_t, cmp_eql_f, cmp_neq_t, cmp_neq_f, cmp_lss_t, cmp_lss_f, cmp_leq_t, cmp_leq_f, cmp_gtr_t, cmp_gtr_f, cmp_geq_t, cmp_geq_f, Bool.not_eq_true', Bool.not_eq_false', Bool.and_eq_true, Bool.and_eq_false_iff, binDen, Option.some.injEq, EV.u.injEq, Nil.isNil, beq_self_eq_true, and_self, true_and, and_true, or_false, false_or, or_self, not_true_eq_false, not_false_eq_true, ne_eq, Bool.true_eq_false, Bool.false_eq_true, reduceCtorEq, h0] <;> rfl) ?_
           (first | rfl | exact ⟨_, rfl⟩)))
      | fail "no step")
theorem hESteps : cESteps.Holds objs Try.prog := runCtr_holds (X := { cxEG Try.prog with hints := hsESteps }) objsOk mixed hctsEG (callable _ Try.func13 (by kernel_rfl) (by kernel_rfl)) (by rintro ins _ ⟨_, _, _, _, _, _, _, _, _, _, rfl, _⟩; rfl) (by rw [rESteps]; exact vESteps _ _)
theorem epochSteps_walk {v1 v2 : Value} {n1 c1 n2 c2 : Nat} {g1 g2 : Nat → Nat → Int} (a b n s : Int) (W : World) (h1 : SliceAt W [some .u64] v1 n1 c1 g1) (h2 : SliceAt W actEs v2 n2 c2 g2) : Calls Try.prog 13 #[.agg #[.int .i64 a, .int .i64 b, .int .i64 n], .int .i64 s, v1, v2] W fun e W' => e = .returned (.bool true) ∧ Below W.heap.size W W' :=
  hESteps.law rfl (ins := [.i a, .i b, .i n, .i s, .f g1 n1, .i n1, .i c1, .f g2 n2, .i n2, .i c2]) (ρ := [ptrOf v1, ptrOf v2]) (vals := [.agg #[.int .i64 a, .int .i64 b, .int .i64 n], .int .i64 s, v1, v2]) rfl ⟨_, _, _, _, _, _, _, _, _, _, rfl, fun j hj => wf_isW (h1.2.1 j hj 0 .u64 rfl)⟩ rfl
    (DenL.cons ⟨fun _ _ => rfl, trivial, trivial, trivial, trivial⟩ (DenL.cons ⟨fun _ _ => rfl, trivial⟩ (DenL.cons (h1.den rfl (by simp) rfl rfl) (DenL.cons (h2.den rfl (by simp) rfl rfl) DenL.nil))))
    (Sat.inputs rfl (by intro m e hm; match m, hm with | 0, hm => cases hm; exact .inl ⟨_, _, rfl, h1.ro rfl⟩ | 1, hm => cases hm; exact .inl ⟨_, _, rfl, h2.ro rfl⟩ | m + 2, hm => cases hm))
end Go.Proofs.Ytjohihkbampbgaa
