/- Passes as objects: the contracts hold. -/
import Derived.Test.YtjohihkbampbgaaGsT
namespace Go.Proofs.Ytjohihkbampbgaa
set_option linter.unusedVariables false
set_option linter.unusedSimpArgs false
set_option linter.unusedSectionVars false
open Go

theorem nomore_pass {M : PassSt} : ∀ (t : Nat) (T : ObjT U) (ps : List (EV U)), objs[t]? = some T → t ∉ [5, 6, 7] → ps.length = T.nv → T.ok ps → some (EV.u (U.pass M)) ≠ some (EV.u (T.obj ps)) := by
  exact nomore_kind (by show ∀ t, t < 26 → t ∉ [5, 6, 7] → kinds.getD t 0 ≠ 6; decide)
set_option maxHeartbeats 1000000 in
theorem vStepP (P : Program) (hs : List (Nat × Nat × List Nat)) : ∀ ins, ins.length = cStepP.nin → cStepP.pre ins → tStepP.sat { cx P ctsM with hints := hs } (ctrR cStepP) ins := by
  rintro ins _ ⟨p, M, rfl, hp⟩
  simp only [Tree.sat, Bx.den, Ex.den, Bnd.den, gI, gB, gL, gF, gN, gNil, List.map_cons, List.map_nil, List.cons_append, List.nil_append, List.getElem?_cons_zero, List.getElem?_cons_succ, List.getD, Option.getD_some, cmp_eql_t, cmp_eql_f, cmp_neq_t, cmp_neq_f, cmp_lss_t, cmp_lss_f, cmp_leq_t, cmp_leq_f, cmp_gtr_t, cmp_gtr_f, cmp_geq_t, cmp_geq_f, Bool.not_eq_true', Bool.not_eq_false', Bool.and_eq_true, Bool.and_eq_false_iff, binDen, ctrR, Ctr.may, List.take_succ_cons, List.take_zero, Option.some.injEq, EV.u.injEq, tStepP, cx, ctsM, objs]
  refine ⟨?_, ?_, ?_, nomore_pass⟩
  · rintro ps hl ⟨a, d, n, w, rfl⟩ he
    injection he with he; subst he
    simp only [Tree.sat, Bx.den, Ex.den, Bnd.den, gI, gB, gL, gF, gN, gNil, List.map_cons, List.map_nil, List.cons_append, List.nil_append, List.getElem?_cons_zero, List.getElem?_cons_succ, List.getD, Option.getD_some, cmp_eql_t, cmp_eql_f, cmp_neq_t, cmp_neq_f, cmp_lss_t, cmp_lss_f, cmp_leq_t, cmp_leq_f, cmp_gtr_t, cmp_gtr_f, cmp_geq_t, cmp_geq_f, Bool.not_eq_true', Bool.not_eq_false', Bool.and_eq_true, Bool.and_eq_false_iff, binDen, ctrR, Ctr.may, List.take_succ_cons, List.take_zero, Option.some.injEq, EV.u.injEq, passT1, passT2, passT9, passObj1, passObj2, passObj9, passOk4, passOk5, cStepP, pre_load, out_load, stepP, true_and, ne_eq, not_true_eq_false, false_implies, true_implies, implies_true]
    repeat' (first | with_reducible apply And.intro | intro _)
    all_goals first
      | exact ⟨_, _, _, _, rfl⟩
      | exact ⟨_, _, _, _, _, rfl⟩
      | (simp [soonB, *]; done)
      | (rw [show soonB (M.load a).n n d = false from by simp [soonB]; omega]; simp; done)
      | (simp [*]; done)
      | (simp [*]; omega)
      | grind
  · rintro ps hl ⟨a, d, n, w, rfl⟩ he
    injection he with he; subst he
    simp only [Tree.sat, Bx.den, Ex.den, Bnd.den, gI, gB, gL, gF, gN, gNil, List.map_cons, List.map_nil, List.cons_append, List.nil_append, List.getElem?_cons_zero, List.getElem?_cons_succ, List.getD, Option.getD_some, cmp_eql_t, cmp_eql_f, cmp_neq_t, cmp_neq_f, cmp_lss_t, cmp_lss_f, cmp_leq_t, cmp_leq_f, cmp_gtr_t, cmp_gtr_f, cmp_geq_t, cmp_geq_f, Bool.not_eq_true', Bool.not_eq_false', Bool.and_eq_true, Bool.and_eq_false_iff, binDen, ctrR, Ctr.may, List.take_succ_cons, List.take_zero, Option.some.injEq, EV.u.injEq, passT1, passT2, passT9, passObj1, passObj2, passObj9, passOk4, passOk5, cStepP, pre_cas, out_cas, stepP, true_and, ne_eq, not_true_eq_false, false_implies, true_implies, implies_true]
    repeat' (first | with_reducible apply And.intro | intro _)
    all_goals first
      | exact ⟨_, _, _, _, rfl⟩
      | exact ⟨_, _, _, _, _, rfl⟩
      | (simp [*]; done)
      | (simp [*]; omega)
      | grind
  · rintro ps hl ⟨a, d, n, w, e, rfl⟩ he
    injection he with he; subst he
    simp only [Tree.sat, Bx.den, Ex.den, Bnd.den, gI, gB, gL, gF, gN, gNil, List.map_cons, List.map_nil, List.cons_append, List.nil_append, List.getElem?_cons_zero, List.getElem?_cons_succ, List.getD, Option.getD_some, cmp_eql_t, cmp_eql_f, cmp_neq_t, cmp_neq_f, cmp_lss_t, cmp_lss_f, cmp_leq_t, cmp_leq_f, cmp_gtr_t, cmp_gtr_f, cmp_geq_t, cmp_geq_f, Bool.not_eq_true', Bool.not_eq_false', Bool.and_eq_true, Bool.and_eq_false_iff, binDen, ctrR, Ctr.may, List.take_succ_cons, List.take_zero, Option.some.injEq, EV.u.injEq, passT1, passT2, passT9, passObj1, passObj2, passObj9, passOk4, passOk5, cStepP, stepP, true_and, ne_eq, not_true_eq_false, false_implies, true_implies, implies_true]
    repeat' (first | with_reducible apply And.intro | intro _)
    all_goals first
      | exact ⟨_, _, _, _, rfl⟩
      | exact ⟨_, _, _, _, _, rfl⟩
      | (simp [*]; done)
      | (simp [*]; omega)
      | grind
set_option maxHeartbeats 1000000 in
theorem vErrP (P : Program) (hs : List (Nat × Nat × List Nat)) : ∀ ins, ins.length = cErrP.nin → cErrP.pre ins → tErrP.sat { cx P ctsM with hints := hs } (ctrR cErrP) ins := by
  rintro ins _ ⟨p, rfl, hp⟩
  simp only [Tree.sat, Bx.den, Ex.den, Bnd.den, gI, gB, gL, gF, gN, gNil, List.map_cons, List.map_nil, List.cons_append, List.nil_append, List.getElem?_cons_zero, List.getElem?_cons_succ, List.getD, Option.getD_some, cmp_eql_t, cmp_eql_f, cmp_neq_t, cmp_neq_f, cmp_lss_t, cmp_lss_f, cmp_leq_t, cmp_leq_f, cmp_gtr_t, cmp_gtr_f, cmp_geq_t, cmp_geq_f, Bool.not_eq_true', Bool.not_eq_false', Bool.and_eq_true, Bool.and_eq_false_iff, binDen, ctrR, Ctr.may, List.take_succ_cons, List.take_zero, Option.some.injEq, EV.u.injEq, tErrP, cx, ctsM, objs]
  refine ⟨?_, ?_, ?_, nomore_pass⟩
  · rintro ps hl ⟨a, d, n, w, rfl⟩ he
    injection he with he; subst he
    simp only [Tree.sat, Bx.den, Ex.den, Bnd.den, gI, gB, gL, gF, gN, gNil, List.map_cons, List.map_nil, List.cons_append, List.nil_append, List.getElem?_cons_zero, List.getElem?_cons_succ, List.getD, Option.getD_some, cmp_eql_t, cmp_eql_f, cmp_neq_t, cmp_neq_f, cmp_lss_t, cmp_lss_f, cmp_leq_t, cmp_leq_f, cmp_gtr_t, cmp_gtr_f, cmp_geq_t, cmp_geq_f, Bool.not_eq_true', Bool.not_eq_false', Bool.and_eq_true, Bool.and_eq_false_iff, binDen, ctrR, Ctr.may, List.take_succ_cons, List.take_zero, Option.some.injEq, EV.u.injEq, passT1, passObj1, passOk4, cErrP, errP]
    exact ⟨⟨_, _, _, _, rfl⟩, rfl⟩
  · rintro ps hl ⟨a, d, n, w, rfl⟩ he
    injection he with he; subst he
    simp only [Tree.sat, Bx.den, Ex.den, Bnd.den, gI, gB, gL, gF, gN, gNil, List.map_cons, List.map_nil, List.cons_append, List.nil_append, List.getElem?_cons_zero, List.getElem?_cons_succ, List.getD, Option.getD_some, cmp_eql_t, cmp_eql_f, cmp_neq_t, cmp_neq_f, cmp_lss_t, cmp_lss_f, cmp_leq_t, cmp_leq_f, cmp_gtr_t, cmp_gtr_f, cmp_geq_t, cmp_geq_f, Bool.not_eq_true', Bool.not_eq_false', Bool.and_eq_true, Bool.and_eq_false_iff, binDen, ctrR, Ctr.may, List.take_succ_cons, List.take_zero, Option.some.injEq, EV.u.injEq, passT2, passObj2, passOk4, cErrP, errP]
    exact ⟨⟨_, _, _, _, rfl⟩, rfl⟩
  · rintro ps hl ⟨a, d, n, w, e, rfl⟩ he
    injection he with he; subst he
    simp only [Tree.sat, Bx.den, Ex.den, Bnd.den, gI, gB, gL, gF, gN, gNil, List.map_cons, List.map_nil, List.cons_append, List.nil_append, List.getElem?_cons_zero, List.getElem?_cons_succ, List.getD, Option.getD_some, cmp_eql_t, cmp_eql_f, cmp_neq_t, cmp_neq_f, cmp_lss_t, cmp_lss_f, cmp_leq_t, cmp_leq_f, cmp_gtr_t, cmp_gtr_f, cmp_geq_t, cmp_geq_f, Bool.not_eq_true', Bool.not_eq_false', Bool.and_eq_true, Bool.and_eq_false_iff, binDen, ctrR, Ctr.may, List.take_succ_cons, List.take_zero, Option.some.injEq, EV.u.injEq, passT9, passObj9, passOk5, cErrP, errP]
    exact ⟨⟨_, _, _, _, _, rfl⟩, rfl⟩
set_option maxHeartbeats 1000000 in
theorem vNewP (P : Program) (hs : List (Nat × Nat × List Nat)) : ∀ ins, ins.length = cNewP.nin → cNewP.pre ins → tNewP.sat { cx P ctsM with hints := hs } (ctrR cNewP) ins := by
  rintro ins _ ⟨f, n, t, a, w, rfl⟩
  simp only [Tree.sat, Bx.den, Ex.den, Bnd.den, gI, gB, gL, gF, gN, gNil, List.map_cons, List.map_nil, List.cons_append, List.nil_append, List.getElem?_cons_zero, List.getElem?_cons_succ, List.getD, Option.getD_some, cmp_eql_t, cmp_eql_f, cmp_neq_t, cmp_neq_f, cmp_lss_t, cmp_lss_f, cmp_leq_t, cmp_leq_f, cmp_gtr_t, cmp_gtr_f, cmp_geq_t, cmp_geq_f, Bool.not_eq_true', Bool.not_eq_false', Bool.and_eq_true, Bool.and_eq_false_iff, binDen, ctrR, Ctr.may, List.take_succ_cons, List.take_zero, Option.some.injEq, EV.u.injEq, tNewP, cx, ctsM, objs, passT1, passT9, passObj1, passObj9, passOk4, passOk5, cNewP, newP, true_and, ne_eq, not_true_eq_false, false_implies, true_implies, implies_true]
  repeat' (first | with_reducible apply And.intro | intro _)
  all_goals first
    | exact ⟨_, _, _, _, rfl⟩
    | exact ⟨_, _, _, _, _, rfl⟩
    | (rw [if_pos (by omega)])
    | (rw [if_neg (by omega), wrap_u64 (n := a) (by omega) (by omega), wrap_u64 (n := w) (by omega) (by omega)])
theorem vLast1 (P : Program) (hs : List (Nat × Nat × List Nat)) : ∀ ins, ins.length = cLast1.nin → cLast1.pre ins → tLast1.sat { cx P ctsN with hints := hs } (ctrR cLast1) ins := by
  rintro ins _ ⟨M, f, n, t, rfl⟩
  have hpre : cLastG.pre [.u (.mem M), .i f, .i n, .i t] := ⟨_, _, _, _, rfl⟩
  have hout : cLastG.out [.u (.mem M), .i f, .i n, .i t] = [.u (.mem M), .i ((gLast M f n t).getD 0), .b (gLast M f n t).isSome] := rfl
  simp only [Tree.sat, Bx.den, Ex.den, Bnd.den, gI, gB, gL, gF, gN, gNil, List.map_cons, List.map_nil, List.cons_append, List.nil_append, List.getElem?_cons_zero, List.getElem?_cons_succ, List.getD, Option.getD_some, cmp_eql_t, cmp_eql_f, cmp_neq_t, cmp_neq_f, cmp_lss_t, cmp_lss_f, cmp_leq_t, cmp_leq_f, cmp_gtr_t, cmp_gtr_f, cmp_geq_t, cmp_geq_f, Bool.not_eq_true', Bool.not_eq_false', Bool.and_eq_true, Bool.and_eq_false_iff, binDen, ctrR, Ctr.may, List.take_succ_cons, List.take_zero, Option.some.injEq, EV.u.injEq, tLast1, cx, ctsN, ctsM, cLast1, hpre, hout, true_and]
  cases gLast M f n t <;> simp
theorem vBegins (P : Program) (hs : List (Nat × Nat × List Nat)) : ∀ ins, ins.length = cBegins.nin → cBegins.pre ins → tBegins.sat { cx P ctsB with hints := hs } (ctrR cBegins) ins := by
  rintro ins _ ⟨a, b, c, d, e, f, n, t, x, y, rfl⟩
  have hpn : ∀ f n t a w, cNewP.pre [.i f, .i n, .i t, .i a, .i w] = True := fun f n t a w => eq_true ⟨_, _, _, _, _, rfl⟩
  have hon : ∀ f n t a w, cNewP.out [.i f, .i n, .i t, .i a, .i w] = [.u (.pass (newP f n t a w))] := fun _ _ _ _ _ => rfl
  simp only [Tree.sat, Bx.den, Ex.den, Bnd.den, gI, gB, gL, gF, gN, gNil, List.map_cons, List.map_nil, List.cons_append, List.nil_append, List.getElem?_cons_zero, List.getElem?_cons_succ, List.getD, Option.getD_some, cmp_eql_t, cmp_eql_f, cmp_neq_t, cmp_neq_f, cmp_lss_t, cmp_lss_f, cmp_leq_t, cmp_leq_f, cmp_gtr_t, cmp_gtr_f, cmp_geq_t, cmp_geq_f, Bool.not_eq_true', Bool.not_eq_false', Bool.and_eq_true, Bool.and_eq_false_iff, binDen, ctrR, Ctr.may, List.take_succ_cons, List.take_zero, Option.some.injEq, EV.u.injEq, tBegins, cx, ctsB, ctsM, cBegins, hpn, hon, out_pick, true_and, and_true]
  repeat' (first | with_reducible apply And.intro | intro _)
  all_goals first
    | exact pre_pick (by decide) (by decide)
    | trivial
theorem hStepP : cStepP.Holds objs Try.prog := runCtr_holds (X := cx Try.prog ctsM) objsOk mixed hctsM (callable _ Try.func20 (by kernel_rfl) (by kernel_rfl)) (by rintro ins _ ⟨_, _, rfl, _⟩; rfl) (by rw [rStepP]; exact vStepP _ _)
theorem hErrP : cErrP.Holds objs Try.prog := runCtr_holds (X := cx Try.prog ctsM) objsOk mixed hctsM (callable _ Try.func15 (by kernel_rfl) (by kernel_rfl)) (by rintro ins _ ⟨_, rfl, _⟩; rfl) (by rw [rErrP]; exact vErrP _ _)
theorem hNewP : cNewP.Holds objs Try.prog := runCtr_holds (X := cx Try.prog ctsM) objsOk mixed hctsM (callable _ Try.func14 (by kernel_rfl) (by kernel_rfl)) (by rintro ins _ ⟨_, _, _, _, _, rfl⟩; rfl) (by rw [rNewP]; exact vNewP _ _)
theorem hLast1 : cLast1.Holds objs Try.prog := runCtr_holds (X := cx Try.prog ctsN) objsOk mixed hctsN (callable _ Try.func30 (by kernel_rfl) (by kernel_rfl)) (by rintro ins _ ⟨_, _, _, _, rfl⟩; rfl) (by rw [rLast1]; exact vLast1 _ _)
theorem hctsB : ∀ (ci : Nat) (c : Ctr U), ctsB[ci]? = some c → c.Holds objs Try.prog := by
  intro ci c h
  by_cases hlt : ci < 9
  · exact hctsM ci c (by rw [← h, ctsB, List.getElem?_append_left (by exact hlt)])
  · rw [ctsB, List.getElem?_append_right (by show 9 ≤ ci; omega)] at h
    match e : ci - ctsM.length, h with
    | 0, h => cases h; exact hNewP
    | n + 1, h => cases h
theorem hBegins : cBegins.Holds objs Try.prog := runCtr_holds (X := { cx Try.prog ctsB with hints := [(29, 1, [0]), (29, 2, [0])] }) objsOk mixed hctsB (callable _ Try.func29 (by kernel_rfl) (by kernel_rfl)) (by rintro ins _ ⟨_, _, _, _, _, _, _, _, _, _, rfl⟩; rfl) (by rw [rBegins]; exact vBegins _ _)
end Go.Proofs.Ytjohihkbampbgaa
