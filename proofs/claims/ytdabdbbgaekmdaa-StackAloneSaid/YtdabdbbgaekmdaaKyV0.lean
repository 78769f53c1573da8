/- Stacks: a core's step: a contract holds. -/
import Derived.Test.YtdabdbbgaekmdaaKyL
namespace Go.Proofs.Ytdabdbbgaekmdaa
set_option linter.unusedVariables false
set_option linter.unusedSimpArgs false
set_option linter.unusedSectionVars false
open Go Go.RowKit

set_option maxRecDepth 10000 in
set_option maxHeartbeats 8000000 in
theorem vSt0 (P : Program) (hs : List (Nat × Nat × List Nat)) : ∀ ins, ins.length = cSt0.nin → cSt0.pre ins → tSt0.sat { cxSy P with hints := hs } (ctrR cSt0) ins := by
  rintro ins _ ⟨x7, x8, x9, x10, x11, x12, x13, x14, x15, x16, x17, x18, x19, x20, o, H, cc, lays, M, t, l, n, rfl, ho, hM, hn, hH⟩
  have hcl : (chainS M t l n).length ≤ 4096 := Nat.le_trans (len_chainLy ..) (by omega)
  have fin : ∀ {b b' : Bool} {D : List Int}, b = b' → b = b' := fun h => h
  generalize hC : chainS M t l n = C at hcl
  have hget : ∀ c : List Int, ¬ C.length = 0 → (C ++ c)[0]?.getD 0 = C[0]?.getD 0 := fun c h => by rw [List.getElem?_append_left (by omega)]
  cases o with
  | none =>
    simp only [cpA, cpB, cpC]
    unfold tSt0
    repeat' (first
      | (first
        | (with_reducible refine st_need ?_ ?_
           focus (simp only [Bx.den, Ex.den, Bnd.den, gI, gB, gL, gF, gN, gNil, List.map_cons, List.map_nil, List.cons_append, List.nil_append, List.getElem?_cons_zero, List.getElem?_cons_succ, List.getD, Option.getD_some, cmp_eql_t, cmp_eql_f, cmp_neq_t, cmp_neq_f, cmp_lss_t, cmp_lss_f, cmp_leq_t, cmp_leq_f, cmp_gtr_t, cmp_gtr_f, cmp_geq_t, cmp_geq_f, Bool.not_eq_true', Bool.not_eq_false', Bool.and_eq_true, Bool.and_eq_false_iff, binDen, Option.some.injEq, EV.u.injEq, Nil.isNil, beq_self_eq_true, and_self, true_and, and_true, or_false, false_or, or_self, not_true_eq_false, not_false_eq_true, ne_eq, Bool.true_eq_false, Bool.false_eq_true, reduceCtorEq, hM, Nil.isNil] <;> first | omega | assumption))
        | (with_reducible refine st_and ?_ ?_)
        | (with_reducible exact st_ok)
        | (with_reducible refine st_br (fun hc => ?_) (fun hc => ?_) <;> (simp only [Bx.den, Ex.den, Bnd.den, gI, gB, gL, gF, gN, gNil, List.map_cons, List.map_nil, List.cons_append, List.nil_append, List.getElem?_cons_zero, List.getElem?_cons_succ, List.getD, Option.getD_some, cmp_eql_t, cmp_eql_f, cmp_neq_t, cmp_neq_f, cmp_lss_t, cmp_lss_f, cmp_leq_t, cmp_leq_f, cmp_gtr_t, cmp_gtr_f, cmp_geq_t, cmp_geq_f, Bool.not_eq_true', Bool.not_eq_false', Bool.and_eq_true, Bool.and_eq_false_iff, binDen, Option.some.injEq, EV.u.injEq, Nil.isNil, beq_self_eq_true, and_self, true_and, and_true, or_false, false_or, or_self, not_true_eq_false, not_false_eq_true, ne_eq, Bool.true_eq_false, Bool.false_eq_true, reduceCtorEq, hM, Nil.isNil] at hc) <;> (try (exfalso; first | contradiction | omega)))
        | (refine st_call (by rfl) (by simp only [Bx.den, Ex.den, Bnd.den, gI, gB, gL, gF, gN, gNil, List.map_cons, List.map_nil, List.cons_append, List.nil_append, List.getElem?_cons_zero, List.getElem?_cons_succ, List.getD, Option.getD_some, cmp_eql_t, cmp_eql_f, cmp_neq_t, cmp_neq_f, cmp_lss_t, cmp_lss_f, cmp_leq_t, cmp_leq_f, cmp_gtr_t, cmp_gtr_f, cmp_geq_t, cmp_geq_f, Bool.not_eq_true', Bool.not_eq_false', Bool.and_eq_true, Bool.and_eq_false_iff, binDen, Option.some.injEq, EV.u.injEq, Nil.isNil, beq_self_eq_true, and_self, true_and, and_true, or_false, false_or, or_self, not_true_eq_false, not_false_eq_true, ne_eq, Bool.true_eq_false, Bool.false_eq_true, reduceCtorEq, hM, Nil.isNil] <;> rfl) ?_ (by simp only [out_Postep] <;> rfl) (by simp only [List.cons_append, List.nil_append] <;> rfl) ?_
           focus (first | rfl))
        | (with_reducible refine st_ret (by simp only [Bx.den, Ex.den, Bnd.den, gI, gB, gL, gF, gN, gNil, List.map_cons, List.map_nil, List.cons_append, List.nil_append, List.getElem?_cons_zero, List.getElem?_cons_succ, List.getD, Option.getD_some, cmp_eql_t, cmp_eql_f, cmp_neq_t, cmp_neq_f, cmp_lss_t, cmp_lss_f, cmp_leq_t, cmp_leq_f, cmp_gtr_t, cmp_gtr_f, cmp_geq_t, cmp_geq_f, Bool.not_eq_true', Bool.not_eq_false', Bool.and_eq_true, Bool.and_eq_false_iff, binDen, Option.some.injEq, EV.u.injEq, Nil.isNil, beq_self_eq_true, and_self, true_and, and_true, or_false, false_or, or_self, not_true_eq_false, not_false_eq_true, ne_eq, Bool.true_eq_false, Bool.false_eq_true, reduceCtorEq, hM, Nil.isNil] <;> rfl) ?_
           (first | rfl | exact ⟨_, rfl⟩)))
      | (refine st_chainY (by rfl) (by simp only [Bx.den, Ex.den, Bnd.den, gI, gB, gL, gF, gN, gNil, List.map_cons, List.map_nil, List.cons_append, List.nil_append, List.getElem?_cons_zero, List.getElem?_cons_succ, List.getD, Option.getD_some, cmp_eql_t, cmp_eql_f, cmp_neq_t, cmp_neq_f, cmp_lss_t, cmp_lss_f, cmp_leq_t, cmp_leq_f, cmp_gtr_t, cmp_gtr_f, cmp_geq_t, cmp_geq_f, Bool.not_eq_true', Bool.not_eq_false', Bool.and_eq_true, Bool.and_eq_false_iff, binDen, Option.some.injEq, EV.u.injEq, Nil.isNil, beq_self_eq_true, and_self, true_and, and_true, or_false, false_or, or_self, not_true_eq_false, not_false_eq_true, ne_eq, Bool.true_eq_false, Bool.false_eq_true, reduceCtorEq, hM] <;> rfl) hM hn (fun c1 env' he => ?_)
         rw [hC] at he
         simp only [List.cons_append, List.nil_append] at he
         subst he)
      | (refine st_ret (by simp only [Bx.den, Ex.den, Bnd.den, gI, gB, gL, gF, gN, gNil, List.map_cons, List.map_nil, List.cons_append, List.nil_append, List.getElem?_cons_zero, List.getElem?_cons_succ, List.getD, Option.getD_some, cmp_eql_t, cmp_eql_f, cmp_neq_t, cmp_neq_f, cmp_lss_t, cmp_lss_f, cmp_leq_t, cmp_leq_f, cmp_gtr_t, cmp_gtr_f, cmp_geq_t, cmp_geq_f, Bool.not_eq_true', Bool.not_eq_false', Bool.and_eq_true, Bool.and_eq_false_iff, binDen, Option.some.injEq, EV.u.injEq, Nil.isNil, beq_self_eq_true, and_self, true_and, and_true, or_false, false_or, or_self, not_true_eq_false, not_false_eq_true, ne_eq, Bool.true_eq_false, Bool.false_eq_true, reduceCtorEq, hM] <;> rfl) ?_
         focus exact ⟨_, _, _, _, _, _, _, _, _, _, _, _, _, _, .none, H, cc, lays, M, t, l, n, cc, rfl, by simp only [stepC, stepH, stepG, hC, cpA, cpB, cpC]⟩)
      | fail "no step")
  | pop Q =>
    have hfin := fine_stepPo ho hM
    have hok := ok_stepPo ho hM
    obtain ⟨Q', M', hs⟩ : ∃ Q' M', stepPo Q M = (Q', M') := ⟨_, _, rfl⟩
    rw [hs] at hfin hok
    simp only at hfin hok
    obtain ⟨i, e, ht⟩ : ∃ i e, toldS Q'.line Q'.i = (i, e) := ⟨_, _, rfl⟩
    have ht9 : Q'.line = 9 → toldS 9 Q'.i = (i, e) := fun h => by rw [← h]; exact ht
    have hln : IntKind.i64.wrap ((H.length : Int) + 1) = ((H ++ [i]).length : Int) := by rw [wrap_small (by omega) (by omega), List.length_append]; rfl
    cases h9 : (Q'.line == 9)
    all_goals
      have h9' := h9
      simp only [beq_iff_eq, beq_eq_false_iff_ne, ne_eq] at h9'
      by_cases hee : e = 0
    all_goals
      by_cases h15 : e = 15
    all_goals
      by_cases hc0 : C.length = 0
    all_goals
      by_cases hv : C[0]?.getD 0 = i
    all_goals
      simp only [cpA, cpB, cpC]
      unfold tSt0
      repeat' (first
        | (first
          | (with_reducible refine st_need ?_ ?_
             focus (simp only [Bx.den, Ex.den, Bnd.den, gI, gB, gL, gF, gN, gNil, List.map_cons, List.map_nil, List.cons_append, List.nil_append, List.getElem?_cons_zero, List.getElem?_cons_succ, List.getD, Option.getD_some, cmp_eql_t, cmp_eql_f, cmp_neq_t, cmp_neq_f, cmp_lss_t, cmp_lss_f, cmp_leq_t, cmp_leq_f, cmp_gtr_t, cmp_gtr_f, cmp_geq_t, cmp_geq_f, Bool.not_eq_true', Bool.not_eq_false', Bool.and_eq_true, Bool.and_eq_false_iff, binDen, Option.some.injEq, EV.u.injEq, Nil.isNil, beq_self_eq_true, and_self, true_and, and_true, or_false, false_or, or_self, not_true_eq_false, not_false_eq_true, ne_eq, Bool.true_eq_false, Bool.false_eq_true, reduceCtorEq, hM, Nil.isNil, h9, List.length_append, Int.toNat_zero, hget, hc0, hv] <;> first | omega | assumption))
          | (with_reducible refine st_and ?_ ?_)
          | (with_reducible exact st_ok)
          | (with_reducible refine st_br (fun hc => ?_) (fun hc => ?_) <;> (simp only [Bx.den, Ex.den, Bnd.den, gI, gB, gL, gF, gN, gNil, List.map_cons, List.map_nil, List.cons_append, List.nil_append, List.getElem?_cons_zero, List.getElem?_cons_succ, List.getD, Option.getD_some, cmp_eql_t, cmp_eql_f, cmp_neq_t, cmp_neq_f, cmp_lss_t, cmp_lss_f, cmp_leq_t, cmp_leq_f, cmp_gtr_t, cmp_gtr_f, cmp_geq_t, cmp_geq_f, Bool.not_eq_true', Bool.not_eq_false', Bool.and_eq_true, Bool.and_eq_false_iff, binDen, Option.some.injEq, EV.u.injEq, Nil.isNil, beq_self_eq_true, and_self, true_and, and_true, or_false, false_or, or_self, not_true_eq_false, not_false_eq_true, ne_eq, Bool.true_eq_false, Bool.false_eq_true, reduceCtorEq, hM, Nil.isNil, h9, List.length_append, Int.toNat_zero, hget, hc0, hv] at hc) <;> (try (exfalso; first | contradiction | omega)))
          | (refine st_call (by rfl) (by simp only [Bx.den, Ex.den, Bnd.den, gI, gB, gL, gF, gN, gNil, List.map_cons, List.map_nil, List.cons_append, List.nil_append, List.getElem?_cons_zero, List.getElem?_cons_succ, List.getD, Option.getD_some, cmp_eql_t, cmp_eql_f, cmp_neq_t, cmp_neq_f, cmp_lss_t, cmp_lss_f, cmp_leq_t, cmp_leq_f, cmp_gtr_t, cmp_gtr_f, cmp_geq_t, cmp_geq_f, Bool.not_eq_true', Bool.not_eq_false', Bool.and_eq_true, Bool.and_eq_false_iff, binDen, Option.some.injEq, EV.u.injEq, Nil.isNil, beq_self_eq_true, and_self, true_and, and_true, or_false, false_or, or_self, not_true_eq_false, not_false_eq_true, ne_eq, Bool.true_eq_false, Bool.false_eq_true, reduceCtorEq, hM, Nil.isNil, h9, List.length_append, Int.toNat_zero, hget, hc0, hv] <;> rfl) ?_ (by simp only [out_Postep, out_poidx, hs, ht, h9] <;> rfl) (by simp only [List.cons_append, List.nil_append] <;> rfl) ?_
             focus (first | exact ⟨_, _, rfl, ho, hM⟩ | exact ⟨_, rfl, hok⟩)))
        | (refine st_chainY (by rfl) (by simp only [Bx.den, Ex.den, Bnd.den, gI, gB, gL, gF, gN, gNil, List.map_cons, List.map_nil, List.cons_append, List.nil_append, List.getElem?_cons_zero, List.getElem?_cons_succ, List.getD, Option.getD_some, cmp_eql_t, cmp_eql_f, cmp_neq_t, cmp_neq_f, cmp_lss_t, cmp_lss_f, cmp_leq_t, cmp_leq_f, cmp_gtr_t, cmp_gtr_f, cmp_geq_t, cmp_geq_f, Bool.not_eq_true', Bool.not_eq_false', Bool.and_eq_true, Bool.and_eq_false_iff, binDen, Option.some.injEq, EV.u.injEq, Nil.isNil, beq_self_eq_true, and_self, true_and, and_true, or_false, false_or, or_self, not_true_eq_false, not_false_eq_true, ne_eq, Bool.true_eq_false, Bool.false_eq_true, reduceCtorEq, hM] <;> rfl) hM hn (fun c1 env' he => ?_)
           rw [hC] at he
           simp only [List.cons_append, List.nil_append] at he
           subst he)
        | (refine st_rowY (V := H) (y := i) (by rfl) (by rfl) (by rfl) (fun rr env' he => ?_)
           simp only [List.cons_append, List.nil_append] at he
           subst he)
        | (refine st_mk (by rfl) (by rfl) ?_ (by simp only [List.cons_append, List.nil_append] <;> rfl) ?_
           focus trivial)
        | (refine st_ret (by simp only [Bx.den, Ex.den, Bnd.den, gI, gB, gL, gF, gN, gNil, List.map_cons, List.map_nil, List.cons_append, List.nil_append, List.getElem?_cons_zero, List.getElem?_cons_succ, List.getD, Option.getD_some, cmp_eql_t, cmp_eql_f, cmp_neq_t, cmp_neq_f, cmp_lss_t, cmp_lss_f, cmp_leq_t, cmp_leq_f, cmp_gtr_t, cmp_gtr_f, cmp_geq_t, cmp_geq_f, Bool.not_eq_true', Bool.not_eq_false', Bool.and_eq_true, Bool.and_eq_false_iff, binDen, Option.some.injEq, EV.u.injEq, Nil.isNil, beq_self_eq_true, and_self, true_and, and_true, or_false, false_or, or_self, not_true_eq_false, not_false_eq_true, ne_eq, Bool.true_eq_false, Bool.false_eq_true, reduceCtorEq, hM, hln, Int.toNat_zero, hget, hc0] <;> rfl) ?_
           focus first
             | (refine ⟨_, _, _, _, _, _, _, _, _, _, _, _, _, _, .pop Q, H, cc, lays, M, t, l, n, cc, rfl, ?_⟩
                simp only [stepC, stepH, stepG, hC, hs, ht, ht9, nilO1, nilO2, nilO3, List.map_nil, h9', hee, h15, hv, hc0, cpA, cpB, cpC, if_true, if_false, true_and, false_and, and_true, and_false, cmpDen_eql] <;> first | rfl | (simp only [Nat.pos_of_ne_zero hc0, decide_true, decide_false, Bool.and_true, Bool.true_and, Bool.and_false, Bool.false_and] <;> rfl) | (simp [*]; done) | (simp [*]; rfl))
             | (refine ⟨_, _, _, _, _, _, _, _, _, _, _, _, _, _, .pop Q, H, cc, lays, M, t, l, n, rr, rfl, ?_⟩
                simp only [stepC, stepH, stepG, hC, hs, ht, ht9, nilO1, nilO2, nilO3, List.map_nil, h9', hee, h15, hv, hc0, cpA, cpB, cpC, if_true, if_false, true_and, false_and, and_true, and_false, cmpDen_eql] <;> first | rfl | (simp only [Nat.pos_of_ne_zero hc0, decide_true, decide_false, Bool.and_true, Bool.true_and, Bool.and_false, Bool.false_and] <;> rfl) | (simp [*]; done) | (simp [*]; rfl)))
        | fail "no step")
  | push Q =>
    have hfin := fine_stepPu ho hM
    have hok := ok_stepPu ho hM
    obtain ⟨Q', M', hs⟩ : ∃ Q' M', stepPu Q M = (Q', M') := ⟨_, _, rfl⟩
    rw [hs] at hfin hok
    simp only at hfin hok
    obtain ⟨e, ht⟩ : ∃ e, errPu Q' = e := ⟨_, rfl⟩
    have hdl : (chainS M' t l n).length ≤ 4096 := Nat.le_trans (len_chainLy ..) (by omega)
    generalize hD : chainS M' t l n = D at hdl
    have hgd : ∀ c : List Int, ¬ D.length = 0 → (D ++ c)[0]?.getD 0 = D[0]?.getD 0 := fun c h => by rw [List.getElem?_append_left (by omega)]
    have hw : IntKind.i64.wrap ((C.length : Int) + 1) = (C.length : Int) + 1 := wrap_small (by omega) (by omega)
    have hsx : ∀ (c d : List Int) (x y : EV U), cSameIntsX.out [.l (D ++ c), .l (C ++ d), .i D.length, x, .i C.length, y] = [.b (decide (D.drop 1 = C))] := fun c d x y => by
      rw [out_sameX, Int.toNat_natCast, Int.toNat_natCast, List.take_left' rfl, List.take_left' rfl]
    cases h9 : (Q'.line == 9)
    all_goals
      have h9' := h9
      simp only [beq_iff_eq, beq_eq_false_iff_ne, ne_eq] at h9'
      by_cases hee : e = 0
    all_goals
      by_cases hll : (D.length : Int) = (C.length : Int) + 1
    all_goals
      by_cases hv : D[0]?.getD 0 = lays
    all_goals
      by_cases hd0 : D.length = 0
    all_goals
      have hll' : (D.length = C.length + 1) = ((D.length : Int) = (C.length : Int) + 1) := by apply propext; omega
      simp only [cpA, cpB, cpC]
      unfold tSt0
      repeat' (first
        | (first
          | (with_reducible refine st_need ?_ ?_
             focus (simp only [Bx.den, Ex.den, Bnd.den, gI, gB, gL, gF, gN, gNil, List.map_cons, List.map_nil, List.cons_append, List.nil_append, List.getElem?_cons_zero, List.getElem?_cons_succ, List.getD, Option.getD_some, cmp_eql_t, cmp_eql_f, cmp_neq_t, cmp_neq_f, cmp_lss_t, cmp_lss_f, cmp_leq_t, cmp_leq_f, cmp_gtr_t, cmp_gtr_f, cmp_geq_t, cmp_geq_f, Bool.not_eq_true', Bool.not_eq_false', Bool.and_eq_true, Bool.and_eq_false_iff, binDen, Option.some.injEq, EV.u.injEq, Nil.isNil, beq_self_eq_true, and_self, true_and, and_true, or_false, false_or, or_self, not_true_eq_false, not_false_eq_true, ne_eq, Bool.true_eq_false, Bool.false_eq_true, reduceCtorEq, hM, Nil.isNil, h9, hw, List.length_append, Int.toNat_zero, hgd, hd0, hv] <;> first | omega | assumption))
          | (with_reducible refine st_and ?_ ?_)
          | (with_reducible exact st_ok)
          | (with_reducible refine st_br (fun hc => ?_) (fun hc => ?_) <;> (simp only [Bx.den, Ex.den, Bnd.den, gI, gB, gL, gF, gN, gNil, List.map_cons, List.map_nil, List.cons_append, List.nil_append, List.getElem?_cons_zero, List.getElem?_cons_succ, List.getD, Option.getD_some, cmp_eql_t, cmp_eql_f, cmp_neq_t, cmp_neq_f, cmp_lss_t, cmp_lss_f, cmp_leq_t, cmp_leq_f, cmp_gtr_t, cmp_gtr_f, cmp_geq_t, cmp_geq_f, Bool.not_eq_true', Bool.not_eq_false', Bool.and_eq_true, Bool.and_eq_false_iff, binDen, Option.some.injEq, EV.u.injEq, Nil.isNil, beq_self_eq_true, and_self, true_and, and_true, or_false, false_or, or_self, not_true_eq_false, not_false_eq_true, ne_eq, Bool.true_eq_false, Bool.false_eq_true, reduceCtorEq, hM, Nil.isNil, h9, hw, List.length_append, Int.toNat_zero, hgd, hd0, hv] at hc) <;> (try (exfalso; first | contradiction | omega)))
          | (refine st_call (by rfl) (by simp only [Bx.den, Ex.den, Bnd.den, gI, gB, gL, gF, gN, gNil, List.map_cons, List.map_nil, List.cons_append, List.nil_append, List.getElem?_cons_zero, List.getElem?_cons_succ, List.getD, Option.getD_some, cmp_eql_t, cmp_eql_f, cmp_neq_t, cmp_neq_f, cmp_lss_t, cmp_lss_f, cmp_leq_t, cmp_leq_f, cmp_gtr_t, cmp_gtr_f, cmp_geq_t, cmp_geq_f, Bool.not_eq_true', Bool.not_eq_false', Bool.and_eq_true, Bool.and_eq_false_iff, binDen, Option.some.injEq, EV.u.injEq, Nil.isNil, beq_self_eq_true, and_self, true_and, and_true, or_false, false_or, or_self, not_true_eq_false, not_false_eq_true, ne_eq, Bool.true_eq_false, Bool.false_eq_true, reduceCtorEq, hM, Nil.isNil, h9, hw, List.length_append, Int.toNat_zero, hgd, hd0, hv] <;> rfl) ?_ (by simp only [out_Pustep, out_puerr, hs, ht, h9, hsx] <;> rfl) (by simp only [List.cons_append, List.nil_append] <;> rfl) ?_
             focus (first | exact ⟨_, _, rfl, ho, hM⟩ | exact ⟨_, rfl, hok⟩ | exact ⟨_, _, _, _, _, _, rfl, by omega, by rw [List.length_append]; omega, by omega, by omega, by rw [List.length_append]; omega, by omega⟩)))
        | (refine st_chainY (by rfl) (by simp only [Bx.den, Ex.den, Bnd.den, gI, gB, gL, gF, gN, gNil, List.map_cons, List.map_nil, List.cons_append, List.nil_append, List.getElem?_cons_zero, List.getElem?_cons_succ, List.getD, Option.getD_some, cmp_eql_t, cmp_eql_f, cmp_neq_t, cmp_neq_f, cmp_lss_t, cmp_lss_f, cmp_leq_t, cmp_leq_f, cmp_gtr_t, cmp_gtr_f, cmp_geq_t, cmp_geq_f, Bool.not_eq_true', Bool.not_eq_false', Bool.and_eq_true, Bool.and_eq_false_iff, binDen, Option.some.injEq, EV.u.injEq, Nil.isNil, beq_self_eq_true, and_self, true_and, and_true, or_false, false_or, or_self, not_true_eq_false, not_false_eq_true, ne_eq, Bool.true_eq_false, Bool.false_eq_true, reduceCtorEq, hM] <;> rfl) hM hn (fun c1 env' he => ?_)
           rw [hC] at he
           simp only [List.cons_append, List.nil_append] at he
           subst he)
        | (refine st_chainY (by rfl) (by simp only [Bx.den, Ex.den, Bnd.den, gI, gB, gL, gF, gN, gNil, List.map_cons, List.map_nil, List.cons_append, List.nil_append, List.getElem?_cons_zero, List.getElem?_cons_succ, List.getD, Option.getD_some, cmp_eql_t, cmp_eql_f, cmp_neq_t, cmp_neq_f, cmp_lss_t, cmp_lss_f, cmp_leq_t, cmp_leq_f, cmp_gtr_t, cmp_gtr_f, cmp_geq_t, cmp_geq_f, Bool.not_eq_true', Bool.not_eq_false', Bool.and_eq_true, Bool.and_eq_false_iff, binDen, Option.some.injEq, EV.u.injEq, Nil.isNil, beq_self_eq_true, and_self, true_and, and_true, or_false, false_or, or_self, not_true_eq_false, not_false_eq_true, ne_eq, Bool.true_eq_false, Bool.false_eq_true, reduceCtorEq, hM] <;> rfl) hfin hn (fun c1 env' he => ?_)
           rw [hD] at he
           simp only [List.cons_append, List.nil_append] at he
           subst he)
        | (refine st_mk (by rfl) (by rfl) ?_ (by simp only [List.cons_append, List.nil_append] <;> rfl) ?_
           focus trivial)
        | (refine st_ret (by simp only [Bx.den, Ex.den, Bnd.den, gI, gB, gL, gF, gN, gNil, List.map_cons, List.map_nil, List.cons_append, List.nil_append, List.getElem?_cons_zero, List.getElem?_cons_succ, List.getD, Option.getD_some, cmp_eql_t, cmp_eql_f, cmp_neq_t, cmp_neq_f, cmp_lss_t, cmp_lss_f, cmp_leq_t, cmp_leq_f, cmp_gtr_t, cmp_gtr_f, cmp_geq_t, cmp_geq_f, Bool.not_eq_true', Bool.not_eq_false', Bool.and_eq_true, Bool.and_eq_false_iff, binDen, Option.some.injEq, EV.u.injEq, Nil.isNil, beq_self_eq_true, and_self, true_and, and_true, or_false, false_or, or_self, not_true_eq_false, not_false_eq_true, ne_eq, Bool.true_eq_false, Bool.false_eq_true, reduceCtorEq, hM] <;> rfl) ?_
           focus first
             | (refine ⟨_, _, _, _, _, _, _, _, _, _, _, _, _, _, .push Q, H, cc, lays, M, t, l, n, cc, rfl, ?_⟩
                simp only [stepC, stepH, stepG, hC, hD, hs, ht, nilO1, nilO2, nilO3, List.map_nil, h9', hee, hll', hll, hv, cpA, cpB, cpC, if_true, if_false, true_and, false_and, and_true, and_false, cmpDen_eql] <;> first | rfl | (simp [*]; done) | (simp [*]; rfl))
             | (refine ⟨_, _, _, _, _, _, _, _, _, _, _, _, _, _, .push Q, H, cc, lays, M, t, l, n, rr, rfl, ?_⟩
                simp only [stepC, stepH, stepG, hC, hD, hs, ht, nilO1, nilO2, nilO3, List.map_nil, h9', hee, hll', hll, hv, cpA, cpB, cpC, if_true, if_false, true_and, false_and, and_true, and_false, cmpDen_eql] <;> first | rfl | (simp [*]; done) | (simp [*]; rfl)))
        | fail "no step")
  | all Q =>
    have hfin := fine_stepAl ho hM
    have hok := ok_stepAl ho hM
    obtain ⟨Q', M', hs⟩ : ∃ Q' M', stepAl Q M = (Q', M') := ⟨_, _, rfl⟩
    rw [hs] at hfin hok
    simp only at hfin hok
    obtain ⟨i, e, ht⟩ : ∃ i e, toldS Q'.line Q'.i = (i, e) := ⟨_, _, rfl⟩
    have ht9 : Q'.line = 9 → toldS 9 Q'.i = (i, e) := fun h => by rw [← h]; exact ht
    generalize hD : chainS M' t l n = D
    have hln : IntKind.i64.wrap ((H.length : Int) + C.length) = ((H ++ C).length : Int) := by rw [wrap_small (by omega) (by omega), List.length_append]; rfl
    have hcn : C.length = 0 → C = [] := fun h => List.length_eq_zero_iff.1 h
    cases h9 : (Q'.line == 9)
    all_goals
      have h9' := h9
      simp only [beq_iff_eq, beq_eq_false_iff_ne, ne_eq] at h9'
      by_cases hee : e = 0
    all_goals
      by_cases h15 : e = 15
    all_goals
      by_cases hc0 : C.length = 0
    all_goals
      by_cases hv : C[0]?.getD 0 = i
    all_goals
      by_cases hd0 : D.length = 0
    all_goals
      have hz : ((D.length : Int) = 0) = (D.length = 0) := by apply propext; omega
      simp only [cpA, cpB, cpC]
      unfold tSt0
      repeat' (first
        | (first
          | (with_reducible refine st_need ?_ ?_
             focus (simp only [Bx.den, Ex.den, Bnd.den, gI, gB, gL, gF, gN, gNil, List.map_cons, List.map_nil, List.cons_append, List.nil_append, List.getElem?_cons_zero, List.getElem?_cons_succ, List.getD, Option.getD_some, cmp_eql_t, cmp_eql_f, cmp_neq_t, cmp_neq_f, cmp_lss_t, cmp_lss_f, cmp_leq_t, cmp_leq_f, cmp_gtr_t, cmp_gtr_f, cmp_geq_t, cmp_geq_f, Bool.not_eq_true', Bool.not_eq_false', Bool.and_eq_true, Bool.and_eq_false_iff, binDen, Option.some.injEq, EV.u.injEq, Nil.isNil, beq_self_eq_true, and_self, true_and, and_true, or_false, false_or, or_self, not_true_eq_false, not_false_eq_true, ne_eq, Bool.true_eq_false, Bool.false_eq_true, reduceCtorEq, hM, Nil.isNil, h9, List.length_append, Int.toNat_zero, hget, hc0, hv] <;> first | omega | assumption))
          | (with_reducible refine st_and ?_ ?_)
          | (with_reducible exact st_ok)
          | (with_reducible refine st_br (fun hc => ?_) (fun hc => ?_) <;> (simp only [Bx.den, Ex.den, Bnd.den, gI, gB, gL, gF, gN, gNil, List.map_cons, List.map_nil, List.cons_append, List.nil_append, List.getElem?_cons_zero, List.getElem?_cons_succ, List.getD, Option.getD_some, cmp_eql_t, cmp_eql_f, cmp_neq_t, cmp_neq_f, cmp_lss_t, cmp_lss_f, cmp_leq_t, cmp_leq_f, cmp_gtr_t, cmp_gtr_f, cmp_geq_t, cmp_geq_f, Bool.not_eq_true', Bool.not_eq_false', Bool.and_eq_true, Bool.and_eq_false_iff, binDen, Option.some.injEq, EV.u.injEq, Nil.isNil, beq_self_eq_true, and_self, true_and, and_true, or_false, false_or, or_self, not_true_eq_false, not_false_eq_true, ne_eq, Bool.true_eq_false, Bool.false_eq_true, reduceCtorEq, hM, Nil.isNil, h9, List.length_append, Int.toNat_zero, hget, hc0, hv] at hc) <;> (try (exfalso; first | contradiction | omega)))
          | (refine st_call (by rfl) (by simp only [Bx.den, Ex.den, Bnd.den, gI, gB, gL, gF, gN, gNil, List.map_cons, List.map_nil, List.cons_append, List.nil_append, List.getElem?_cons_zero, List.getElem?_cons_succ, List.getD, Option.getD_some, cmp_eql_t, cmp_eql_f, cmp_neq_t, cmp_neq_f, cmp_lss_t, cmp_lss_f, cmp_leq_t, cmp_leq_f, cmp_gtr_t, cmp_gtr_f, cmp_geq_t, cmp_geq_f, Bool.not_eq_true', Bool.not_eq_false', Bool.and_eq_true, Bool.and_eq_false_iff, binDen, Option.some.injEq, EV.u.injEq, Nil.isNil, beq_self_eq_true, and_self, true_and, and_true, or_false, false_or, or_self, not_true_eq_false, not_false_eq_true, ne_eq, Bool.true_eq_false, Bool.false_eq_true, reduceCtorEq, hM, Nil.isNil, h9, List.length_append, Int.toNat_zero, hget, hc0, hv] <;> rfl) ?_ (by simp only [out_Alstep, out_alidx, hs, ht, h9] <;> rfl) (by simp only [List.cons_append, List.nil_append] <;> rfl) ?_
             focus (first | exact ⟨_, _, rfl, ho, hM⟩ | exact ⟨_, rfl, hok⟩)))
        | (refine st_chainY (by rfl) (by simp only [Bx.den, Ex.den, Bnd.den, gI, gB, gL, gF, gN, gNil, List.map_cons, List.map_nil, List.cons_append, List.nil_append, List.getElem?_cons_zero, List.getElem?_cons_succ, List.getD, Option.getD_some, cmp_eql_t, cmp_eql_f, cmp_neq_t, cmp_neq_f, cmp_lss_t, cmp_lss_f, cmp_leq_t, cmp_leq_f, cmp_gtr_t, cmp_gtr_f, cmp_geq_t, cmp_geq_f, Bool.not_eq_true', Bool.not_eq_false', Bool.and_eq_true, Bool.and_eq_false_iff, binDen, Option.some.injEq, EV.u.injEq, Nil.isNil, beq_self_eq_true, and_self, true_and, and_true, or_false, false_or, or_self, not_true_eq_false, not_false_eq_true, ne_eq, Bool.true_eq_false, Bool.false_eq_true, reduceCtorEq, hM] <;> rfl) hM hn (fun c1 env' he => ?_)
           rw [hC] at he
           simp only [List.cons_append, List.nil_append] at he
           subst he)
        | (refine st_chainY (by rfl) (by simp only [Bx.den, Ex.den, Bnd.den, gI, gB, gL, gF, gN, gNil, List.map_cons, List.map_nil, List.cons_append, List.nil_append, List.getElem?_cons_zero, List.getElem?_cons_succ, List.getD, Option.getD_some, cmp_eql_t, cmp_eql_f, cmp_neq_t, cmp_neq_f, cmp_lss_t, cmp_lss_f, cmp_leq_t, cmp_leq_f, cmp_gtr_t, cmp_gtr_f, cmp_geq_t, cmp_geq_f, Bool.not_eq_true', Bool.not_eq_false', Bool.and_eq_true, Bool.and_eq_false_iff, binDen, Option.some.injEq, EV.u.injEq, Nil.isNil, beq_self_eq_true, and_self, true_and, and_true, or_false, false_or, or_self, not_true_eq_false, not_false_eq_true, ne_eq, Bool.true_eq_false, Bool.false_eq_true, reduceCtorEq, hM] <;> rfl) hfin hn (fun c1 env' he => ?_)
           rw [hD] at he
           simp only [List.cons_append, List.nil_append] at he
           subst he)
        | (refine st_rowsY (V := H) (D := C) (by rfl) (by rfl) (by rfl) (by rfl) (fun rr env' he => ?_)
           simp only [List.cons_append, List.nil_append] at he
           subst he)
        | (refine st_mk (by rfl) (by rfl) ?_ (by simp only [List.cons_append, List.nil_append] <;> rfl) ?_
           focus trivial)
        | (refine st_ret (by simp only [Bx.den, Ex.den, Bnd.den, gI, gB, gL, gF, gN, gNil, List.map_cons, List.map_nil, List.cons_append, List.nil_append, List.getElem?_cons_zero, List.getElem?_cons_succ, List.getD, Option.getD_some, cmp_eql_t, cmp_eql_f, cmp_neq_t, cmp_neq_f, cmp_lss_t, cmp_lss_f, cmp_leq_t, cmp_leq_f, cmp_gtr_t, cmp_gtr_f, cmp_geq_t, cmp_geq_f, Bool.not_eq_true', Bool.not_eq_false', Bool.and_eq_true, Bool.and_eq_false_iff, binDen, Option.some.injEq, EV.u.injEq, Nil.isNil, beq_self_eq_true, and_self, true_and, and_true, or_false, false_or, or_self, not_true_eq_false, not_false_eq_true, ne_eq, Bool.true_eq_false, Bool.false_eq_true, reduceCtorEq, hM, hln, Int.toNat_zero, hget, hc0] <;> rfl) ?_
           focus first
             | (refine ⟨_, _, _, _, _, _, _, _, _, _, _, _, _, _, .all Q, H, cc, lays, M, t, l, n, cc, rfl, ?_⟩
                first
                | (have hcz := hcn hc0
                   simp only [stepC, stepH, stepG, hC, hD, hs, ht, ht9, nilO1, nilO2, nilO3, List.map_nil, h9', hee, h15, hv, hcz, hd0, hz, List.append_nil, List.length_nil, cpA, cpB, cpC, if_true, if_false, true_and, false_and, and_true, and_false, cmpDen_eql] <;> first | rfl | (simp only [Nat.pos_of_ne_zero hc0, decide_true, decide_false, Bool.and_true, Bool.true_and, Bool.and_false, Bool.false_and] <;> rfl) | (simp [*]; done) | (simp [*]; rfl))
                | (simp only [stepC, stepH, stepG, hC, hD, hs, ht, ht9, nilO1, nilO2, nilO3, List.map_nil, h9', hee, h15, hv, hc0, hd0, hz, cpA, cpB, cpC, if_true, if_false, true_and, false_and, and_true, and_false, cmpDen_eql] <;> first | rfl | (simp only [Nat.pos_of_ne_zero hc0, decide_true, decide_false, Bool.and_true, Bool.true_and, Bool.and_false, Bool.false_and] <;> rfl) | (simp [*]; done) | (simp [*]; rfl)))
             | (refine ⟨_, _, _, _, _, _, _, _, _, _, _, _, _, _, .all Q, H, cc, lays, M, t, l, n, rr, rfl, ?_⟩
                first
                | (have hcz := hcn hc0
                   simp only [stepC, stepH, stepG, hC, hD, hs, ht, ht9, nilO1, nilO2, nilO3, List.map_nil, h9', hee, h15, hv, hcz, hd0, hz, List.append_nil, List.length_nil, cpA, cpB, cpC, if_true, if_false, true_and, false_and, and_true, and_false, cmpDen_eql] <;> first | rfl | (simp only [Nat.pos_of_ne_zero hc0, decide_true, decide_false, Bool.and_true, Bool.true_and, Bool.and_false, Bool.false_and] <;> rfl) | (simp [*]; done) | (simp [*]; rfl))
                | (simp only [stepC, stepH, stepG, hC, hD, hs, ht, ht9, nilO1, nilO2, nilO3, List.map_nil, h9', hee, h15, hv, hc0, hd0, hz, cpA, cpB, cpC, if_true, if_false, true_and, false_and, and_true, and_false, cmpDen_eql] <;> first | rfl | (simp only [Nat.pos_of_ne_zero hc0, decide_true, decide_false, Bool.and_true, Bool.true_and, Bool.and_false, Bool.false_and] <;> rfl) | (simp [*]; done) | (simp [*]; rfl))))
        | fail "no step")
end Go.Proofs.Ytdabdbbgaekmdaa
