/- The document's Passes as objects: the contracts hold. -/
import Derived.Test.YtjohihkbampbgaaRpT
namespace Go.Proofs.Ytjohihkbampbgaa
set_option linter.unusedVariables false
set_option linter.unusedSimpArgs false
set_option linter.unusedSectionVars false
open Go

theorem pre_qload {M : MemSt} {x : Int} (h : M.W.length ≤ 4096) : cQLoad.pre [.u (.rmem M), .i x] := ⟨_, _, rfl, h⟩
theorem pre_qstore {M : MemSt} {x y : Int} (h : M.W.length ≤ 4096) : cQStore.pre [.u (.rmem M), .i x, .i y] := ⟨_, _, _, rfl, h⟩
theorem pre_qcas {M : MemSt} {x y z : Int} (h : M.W.length ≤ 4096) : cQCAS.pre [.u (.rmem M), .i x, .i y, .i z] := ⟨_, _, _, _, rfl, h⟩
theorem pre_qat {M : MemSt} {x : Int} (h : M.W.length ≤ 4096) : cQAt.pre [.u (.rmem M), .i x] := ⟨_, _, rfl, h⟩
theorem out_qload (M : MemSt) (x : Int) : cQLoad.out [.u (.rmem M), .i x] = [.u (.rmem (M.load x)), .i (M.load x).n] := rfl
theorem out_qstore (M : MemSt) (x y : Int) : cQStore.out [.u (.rmem M), .i x, .i y] = [.u (.rmem (M.store x y))] := rfl
theorem out_qcas (M : MemSt) (x y z : Int) : cQCAS.out [.u (.rmem M), .i x, .i y, .i z] = [.u (.rmem (M.cas x y z)), .b (M.cas x y z).h] := rfl
theorem out_qat (M : MemSt) (x : Int) : cQAt.out [.u (.rmem M), .i x] = [.u (.rmem M), .i (if 0 ≤ x ∧ x < M.W.length then M.W[x.toNat]?.getD 0 else 0)] := rfl
theorem nomore_rpass {M : PassSt} : ∀ (t : Nat) (T : ObjT U) (ps : List (EV U)), objs[t]? = some T → t ∉ [9] → ps.length = T.nv → T.ok ps → some (EV.u (U.rpass M)) ≠ some (EV.u (T.obj ps)) := by
  intro t T ps ht
  revert t T
  apply objs_all
  all_goals first
    | (intro h; refine absurd ?_ h; decide)
    | (intro _ _ _ h; injection h with h; injection h with h; cases h; done)
    | (rintro _ _ ⟨l, s, k, a, o, n, h, N, rfl, _⟩ h; injection h with h; injection h with h; cases h; done)
    | (rintro _ _ ⟨_, _, _, _, rfl⟩ h; injection h with h; injection h with h; cases h; done)
    | (rintro _ _ ⟨_, _, _, _, _, rfl⟩ h; injection h with h; injection h with h; cases h; done)
set_option maxHeartbeats 2000000 in
theorem vQStepP (P : Program) (hs : List (Nat × Nat × List Nat)) : ∀ ins, ins.length = cQStepP.nin → cQStepP.pre ins → tQStepP.sat { cx P ctsQ with hints := hs } (ctrR cQStepP) ins := by
  rintro ins _ ⟨p, M, rfl, hp, hM⟩
  simp only [Tree.sat, Bx.den, Ex.den, Bnd.den, gI, gB, gL, gF, gN, gNil, List.map_cons, List.map_nil, List.cons_append, List.nil_append, List.getElem?_cons_zero, List.getElem?_cons_succ, List.getD, Option.getD_some, cmp_eql_t, cmp_eql_f, cmp_neq_t, cmp_neq_f, cmp_lss_t, cmp_lss_f, cmp_leq_t, cmp_leq_f, cmp_gtr_t, cmp_gtr_f, cmp_geq_t, cmp_geq_f, Bool.not_eq_true', Bool.not_eq_false', Bool.and_eq_true, Bool.and_eq_false_iff, binDen, ctrR, Ctr.may, List.take_succ_cons, List.take_zero, Option.some.injEq, EV.u.injEq, tQStepP, cx, ctsQ, objs]
  refine ⟨?_, nomore_rpass⟩
  rintro ps hl ⟨a, d, n, l, w, e, rfl⟩ he
  injection he with he; subst he
  rcases hp with ⟨h1, h2⟩ | ⟨h1, h2⟩ | h1
  · simp only at h1 h2
    subst h1 h2
    simp only [Tree.sat, Bx.den, Ex.den, Bnd.den, gI, gB, gL, gF, gN, gNil, List.map_cons, List.map_nil, List.cons_append, List.nil_append, List.getElem?_cons_zero, List.getElem?_cons_succ, List.getD, Option.getD_some, cmp_eql_t, cmp_eql_f, cmp_neq_t, cmp_neq_f, cmp_lss_t, cmp_lss_f, cmp_leq_t, cmp_leq_f, cmp_gtr_t, cmp_gtr_f, cmp_geq_t, cmp_geq_f, Bool.not_eq_true', Bool.not_eq_false', Bool.and_eq_true, Bool.and_eq_false_iff, binDen, ctrR, Ctr.may, List.take_succ_cons, List.take_zero, Option.some.injEq, EV.u.injEq, rpassT, rpassObj, rpassOk, cQStepP, out_qload, stepP, true_and, ne_eq, not_true_eq_false, false_implies, true_implies, implies_true]
    repeat' (first | with_reducible apply And.intro | intro _)
    all_goals first
      | exact pre_qload hM
      | exact ⟨_, _, _, _, _, _, rfl⟩
      | omega
      | (simp [soonB, *]; done)
      | (rw [show soonB (M.load a).n n d = false from by simp [soonB]; omega]; simp; done)
      | (simp [*]; done)
      | trivial
  · simp only at h1 h2
    subst h1 h2
    simp only [Tree.sat, Bx.den, Ex.den, Bnd.den, gI, gB, gL, gF, gN, gNil, List.map_cons, List.map_nil, List.cons_append, List.nil_append, List.getElem?_cons_zero, List.getElem?_cons_succ, List.getD, Option.getD_some, cmp_eql_t, cmp_eql_f, cmp_neq_t, cmp_neq_f, cmp_lss_t, cmp_lss_f, cmp_leq_t, cmp_leq_f, cmp_gtr_t, cmp_gtr_f, cmp_geq_t, cmp_geq_f, Bool.not_eq_true', Bool.not_eq_false', Bool.and_eq_true, Bool.and_eq_false_iff, binDen, ctrR, Ctr.may, List.take_succ_cons, List.take_zero, Option.some.injEq, EV.u.injEq, rpassT, rpassObj, rpassOk, cQStepP, out_qcas, stepP, true_and, ne_eq, not_true_eq_false, false_implies, true_implies, implies_true]
    repeat' (first | with_reducible apply And.intro | intro _)
    all_goals first
      | exact pre_qcas hM
      | exact ⟨_, _, _, _, _, _, rfl⟩
      | omega
      | (simp [*]; done)
      | trivial
  · simp only at h1
    subst h1
    simp only [Tree.sat, Bx.den, Ex.den, Bnd.den, gI, gB, gL, gF, gN, gNil, List.map_cons, List.map_nil, List.cons_append, List.nil_append, List.getElem?_cons_zero, List.getElem?_cons_succ, List.getD, Option.getD_some, cmp_eql_t, cmp_eql_f, cmp_neq_t, cmp_neq_f, cmp_lss_t, cmp_lss_f, cmp_leq_t, cmp_leq_f, cmp_gtr_t, cmp_gtr_f, cmp_geq_t, cmp_geq_f, Bool.not_eq_true', Bool.not_eq_false', Bool.and_eq_true, Bool.and_eq_false_iff, binDen, ctrR, Ctr.may, List.take_succ_cons, List.take_zero, Option.some.injEq, EV.u.injEq, rpassT, rpassObj, rpassOk, cQStepP, stepP, true_and, ne_eq, not_true_eq_false, false_implies, true_implies, implies_true]
    repeat' (first | with_reducible apply And.intro | intro _)
    all_goals first
      | exact ⟨_, _, _, _, _, _, rfl⟩
      | omega
      | (simp [*]; done)
      | trivial
set_option maxHeartbeats 1000000 in
theorem vQErrP (P : Program) (hs : List (Nat × Nat × List Nat)) : ∀ ins, ins.length = cQErrP.nin → cQErrP.pre ins → tQErrP.sat { cx P ctsQ with hints := hs } (ctrR cQErrP) ins := by
  rintro ins _ ⟨p, rfl⟩
  simp only [Tree.sat, Bx.den, Ex.den, Bnd.den, gI, gB, gL, gF, gN, gNil, List.map_cons, List.map_nil, List.cons_append, List.nil_append, List.getElem?_cons_zero, List.getElem?_cons_succ, List.getD, Option.getD_some, cmp_eql_t, cmp_eql_f, cmp_neq_t, cmp_neq_f, cmp_lss_t, cmp_lss_f, cmp_leq_t, cmp_leq_f, cmp_gtr_t, cmp_gtr_f, cmp_geq_t, cmp_geq_f, Bool.not_eq_true', Bool.not_eq_false', Bool.and_eq_true, Bool.and_eq_false_iff, binDen, ctrR, Ctr.may, List.take_succ_cons, List.take_zero, Option.some.injEq, EV.u.injEq, tQErrP, cx, ctsQ, objs]
  refine ⟨?_, nomore_rpass⟩
  rintro ps hl ⟨a, d, n, l, w, e, rfl⟩ he
  injection he with he; subst he
  simp only [Tree.sat, Bx.den, Ex.den, Bnd.den, gI, gB, gL, gF, gN, gNil, List.map_cons, List.map_nil, List.cons_append, List.nil_append, List.getElem?_cons_zero, List.getElem?_cons_succ, List.getD, Option.getD_some, cmp_eql_t, cmp_eql_f, cmp_neq_t, cmp_neq_f, cmp_lss_t, cmp_lss_f, cmp_leq_t, cmp_leq_f, cmp_gtr_t, cmp_gtr_f, cmp_geq_t, cmp_geq_f, Bool.not_eq_true', Bool.not_eq_false', Bool.and_eq_true, Bool.and_eq_false_iff, binDen, ctrR, Ctr.may, List.take_succ_cons, List.take_zero, Option.some.injEq, EV.u.injEq, rpassT, rpassObj, rpassOk, cQErrP, errP]
  repeat' (first | with_reducible apply And.intro | intro _)
  all_goals first
    | exact ⟨_, _, _, _, _, _, rfl⟩
    | (simp [*]; done)
set_option maxHeartbeats 1000000 in
theorem vQNewP (P : Program) (hs : List (Nat × Nat × List Nat)) : ∀ ins, ins.length = cQNewP.nin → cQNewP.pre ins → tQNewP.sat { cx P ctsQ with hints := hs } (ctrR cQNewP) ins := by
  rintro ins _ ⟨f, n, t, a, w, rfl⟩
  simp only [Tree.sat, Bx.den, Ex.den, Bnd.den, gI, gB, gL, gF, gN, gNil, List.map_cons, List.map_nil, List.cons_append, List.nil_append, List.getElem?_cons_zero, List.getElem?_cons_succ, List.getD, Option.getD_some, cmp_eql_t, cmp_eql_f, cmp_neq_t, cmp_neq_f, cmp_lss_t, cmp_lss_f, cmp_leq_t, cmp_leq_f, cmp_gtr_t, cmp_gtr_f, cmp_geq_t, cmp_geq_f, Bool.not_eq_true', Bool.not_eq_false', Bool.and_eq_true, Bool.and_eq_false_iff, binDen, ctrR, Ctr.may, List.take_succ_cons, List.take_zero, Option.some.injEq, EV.u.injEq, tQNewP, cx, ctsQ, objs, rpassT, rpassObj, rpassOk, cQNewP, newP, true_and, ne_eq, not_true_eq_false, false_implies, true_implies, implies_true]
  repeat' (first | with_reducible apply And.intro | intro _)
  all_goals first
    | exact ⟨_, _, _, _, _, _, rfl⟩
    | (rw [if_pos (by omega)])
    | (rw [if_neg (by omega), wrap_u64 (n := a) (by omega) (by omega), wrap_u64 (n := w) (by omega) (by omega)])
set_option maxHeartbeats 1000000 in
theorem vQLastG (P : Program) (hs : List (Nat × Nat × List Nat)) : ∀ ins, ins.length = cQLastG.nin → cQLastG.pre ins → tQLastG.sat { cx P ctsQ with hints := hs } (ctrR cQLastG) ins := by
  rintro ins _ ⟨M, f, n, t, rfl, hM⟩
  simp only [Tree.sat, Bx.den, Ex.den, Bnd.den, gI, gB, gL, gF, gN, gNil, List.map_cons, List.map_nil, List.cons_append, List.nil_append, List.getElem?_cons_zero, List.getElem?_cons_succ, List.getD, Option.getD_some, cmp_eql_t, cmp_eql_f, cmp_neq_t, cmp_neq_f, cmp_lss_t, cmp_lss_f, cmp_leq_t, cmp_leq_f, cmp_gtr_t, cmp_gtr_f, cmp_geq_t, cmp_geq_f, Bool.not_eq_true', Bool.not_eq_false', Bool.and_eq_true, Bool.and_eq_false_iff, binDen, ctrR, Ctr.may, List.take_succ_cons, List.take_zero, Option.some.injEq, EV.u.injEq, tQLastG, cx, ctsQ, cQLastG, out_qat, true_and, ne_eq, not_true_eq_false, false_implies, true_implies, implies_true, List.append_assoc]
  repeat' (first | with_reducible apply And.intro | intro _)
  all_goals first
    | exact pre_qat hM
    | omega
    | (rw [show gLast M f n t = none by unfold gLast; rw [if_pos (by omega)]]; rfl)
    | (rename_i hx
       by_cases hin : 0 ≤ IntKind.i64.wrap (f + t) ∧ IntKind.i64.wrap (f + t) < M.W.length
       · rw [if_pos hin] at hx
         rw [show gLast M f n t = none by unfold gLast; rw [if_neg (by omega), if_pos (by omega)]]; rfl
       · rw [show gLast M f n t = none by unfold gLast; rw [if_pos (by omega)]]; rfl)
    | (rename_i hx hx2
       by_cases hin : 0 ≤ IntKind.i64.wrap (f + t) ∧ IntKind.i64.wrap (f + t) < M.W.length
       · rw [if_pos hin] at hx hx2 ⊢
         rw [show gLast M f n t = some (IntKind.i64.wrap (IntKind.u64.wrap (M.W[(IntKind.i64.wrap (f + t)).toNat]?.getD 0 - 1))) by unfold gLast; rw [if_neg (by omega), if_neg (by omega)]]; rfl
       · rw [if_neg hin] at hx; exact absurd rfl hx)
set_option maxHeartbeats 1000000 in
theorem bQFill (P : Program) (hs : List (Nat × Nat × List Nat)) : ∀ env, qfillInv env → tQFillL0.sat { cxQ P with hints := hs } (ctrR cQFill) env := by
  rintro env ⟨M, f, n, i, rfl, h1, h2, h3, h4, h5⟩
  simp only [Tree.sat, Bx.den, Ex.den, Bnd.den, gI, gB, gL, gF, gN, gNil, List.map_cons, List.map_nil, List.cons_append, List.nil_append, List.getElem?_cons_zero, List.getElem?_cons_succ, List.getD, Option.getD_some, cmp_eql_t, cmp_eql_f, cmp_neq_t, cmp_neq_f, cmp_lss_t, cmp_lss_f, cmp_leq_t, cmp_leq_f, cmp_gtr_t, cmp_gtr_f, cmp_geq_t, cmp_geq_f, Bool.not_eq_true', Bool.not_eq_false', Bool.and_eq_true, Bool.and_eq_false_iff, binDen, ctrR, Ctr.may, List.take_succ_cons, List.take_zero, Option.some.injEq, EV.u.injEq, tQFillL0, cxQ, cx, ctsQ, cQFill, out_qstore, true_and, ne_eq, not_true_eq_false, false_implies, true_implies, implies_true]
  repeat' (first | with_reducible apply And.intro | intro _)
  all_goals first
    | exact pre_qstore (by rw [len_fill]; exact h5)
    | omega
    | (rw [wrap_small (n := i + 1) (by omega) (by omega)]; exact ⟨M, f, n, i + 1, by rw [fillM_succ M f i h1], by omega, by omega, h3, h4, h5⟩)
    | (rw [wrap_small (n := i + 1) (by omega) (by omega)]; show (n - (i + 1)).toNat < (n - i).toNat; omega)
    | (have : i = n := by omega
       subst this
       rw [if_pos ⟨h3, h4⟩])
set_option maxHeartbeats 1000000 in
theorem vQFill (P : Program) (hs : List (Nat × Nat × List Nat)) : ∀ ins, ins.length = cQFill.nin → cQFill.pre ins → tQFill.sat { cxQ P with hints := hs } (ctrR cQFill) ins := by
  rintro ins _ ⟨M, f, n, rfl, hM⟩
  simp only [Tree.sat, Bx.den, Ex.den, Bnd.den, gI, gB, gL, gF, gN, gNil, List.map_cons, List.map_nil, List.cons_append, List.nil_append, List.getElem?_cons_zero, List.getElem?_cons_succ, List.getD, Option.getD_some, cmp_eql_t, cmp_eql_f, cmp_neq_t, cmp_neq_f, cmp_lss_t, cmp_lss_f, cmp_leq_t, cmp_leq_f, cmp_gtr_t, cmp_gtr_f, cmp_geq_t, cmp_geq_f, Bool.not_eq_true', Bool.not_eq_false', Bool.and_eq_true, Bool.and_eq_false_iff, binDen, ctrR, Ctr.may, List.take_succ_cons, List.take_zero, Option.some.injEq, EV.u.injEq, tQFill, cxQ, cx, ctsQ, cQFill, true_and, ne_eq, not_true_eq_false, false_implies, true_implies, implies_true]
  repeat' (first | with_reducible apply And.intro | intro _)
  all_goals first
    | omega
    | (rw [if_neg (by omega)])
    | exact bQFill P hs _ (by assumption)
    | exact ⟨M, f, n, 0, rfl, by omega, by omega, by omega, by omega, hM⟩
set_option maxHeartbeats 1000000 in
theorem vFitsG (P : Program) (hs : List (Nat × Nat × List Nat)) : ∀ ins, ins.length = cFitsG.nin → cFitsG.pre ins → tFitsG.sat { cx P [] with hints := hs } (ctrR cFitsG) ins := by
  rintro ins _ ⟨f, n, s, rfl⟩
  simp only [Tree.sat, Bx.den, Ex.den, Bnd.den, gI, gB, gL, gF, gN, gNil, List.map_cons, List.map_nil, List.cons_append, List.nil_append, List.getElem?_cons_zero, List.getElem?_cons_succ, List.getD, Option.getD_some, cmp_eql_t, cmp_eql_f, cmp_neq_t, cmp_neq_f, cmp_lss_t, cmp_lss_f, cmp_leq_t, cmp_leq_f, cmp_gtr_t, cmp_gtr_f, cmp_geq_t, cmp_geq_f, Bool.not_eq_true', Bool.not_eq_false', Bool.and_eq_true, Bool.and_eq_false_iff, binDen, ctrR, Ctr.may, List.take_succ_cons, List.take_zero, Option.some.injEq, EV.u.injEq, tFitsG, cx, cFitsG, fitsF, true_and, ne_eq, not_true_eq_false, false_implies, true_implies, implies_true]
  repeat' (first | with_reducible apply And.intro | intro _)
  all_goals first
    | omega
    | (rw [if_pos (by omega)])
    | (rw [if_neg (by omega), if_pos (by omega)])
    | (rw [if_neg (by omega), if_neg (by omega)])
set_option maxHeartbeats 1000000 in
theorem vQFits (P : Program) (hs : List (Nat × Nat × List Nat)) : ∀ ins, ins.length = cQFits.nin → cQFits.pre ins → tQFits.sat { cx P [] with hints := hs } (ctrR cQFits) ins := by
  rintro ins _ ⟨f, n, s, rfl⟩
  simp only [Tree.sat, Bx.den, Ex.den, Bnd.den, gI, gB, gL, gF, gN, gNil, List.map_cons, List.map_nil, List.cons_append, List.nil_append, List.getElem?_cons_zero, List.getElem?_cons_succ, List.getD, Option.getD_some, cmp_eql_t, cmp_eql_f, cmp_neq_t, cmp_neq_f, cmp_lss_t, cmp_lss_f, cmp_leq_t, cmp_leq_f, cmp_gtr_t, cmp_gtr_f, cmp_geq_t, cmp_geq_f, Bool.not_eq_true', Bool.not_eq_false', Bool.and_eq_true, Bool.and_eq_false_iff, binDen, ctrR, Ctr.may, List.take_succ_cons, List.take_zero, Option.some.injEq, EV.u.injEq, tQFits, cx, cQFits, fitsF, true_and, ne_eq, not_true_eq_false, false_implies, true_implies, implies_true]
  repeat' (first | with_reducible apply And.intro | intro _)
  all_goals first
    | omega
    | (rw [if_pos (by omega)])
    | (rw [if_neg (by omega), if_pos (by omega)])
    | (rw [if_neg (by omega), if_neg (by omega)])
theorem hFitsG : cFitsG.Holds objs Try.prog := runCtr_holds (X := cx Try.prog []) objsOk mixed noCts (callable _ Try.func28 (by kernel_rfl) (by kernel_rfl)) (by rintro ins _ ⟨_, _, _, rfl⟩; rfl) (by rw [rFitsG]; exact vFitsG _ _)
theorem hQFits : cQFits.Holds objs Try.prog := runCtr_holds (X := cx Try.prog []) objsOk mixed noCts (callable _ Try.func33 (by kernel_rfl) (by kernel_rfl)) (by rintro ins _ ⟨_, _, _, rfl⟩; rfl) (by rw [rQFits]; exact vQFits _ _)
theorem hQStepP : cQStepP.Holds objs Try.prog := runCtr_holds (X := cx Try.prog ctsQ) objsOk mixed hctsQ (callable _ Try.func38 (by kernel_rfl) (by kernel_rfl)) (by rintro ins _ ⟨_, _, rfl, _⟩; rfl) (by rw [rQStepP]; exact vQStepP _ _)
theorem hQErrP : cQErrP.Holds objs Try.prog := runCtr_holds (X := cx Try.prog ctsQ) objsOk mixed hctsQ (callable _ Try.func17 (by kernel_rfl) (by kernel_rfl)) (by rintro ins _ ⟨_, rfl⟩; rfl) (by rw [rQErrP]; exact vQErrP _ _)
theorem hQNewP : cQNewP.Holds objs Try.prog := runCtr_holds (X := cx Try.prog ctsQ) objsOk mixed hctsQ (callable _ Try.func16 (by kernel_rfl) (by kernel_rfl)) (by rintro ins _ ⟨_, _, _, _, _, rfl⟩; rfl) (by rw [rQNewP]; exact vQNewP _ _)
theorem hQLastG : cQLastG.Holds objs Try.prog := runCtr_holds (X := cx Try.prog ctsQ) objsOk mixed hctsQ (callable _ Try.func39 (by kernel_rfl) (by kernel_rfl)) (by rintro ins _ ⟨_, _, _, _, rfl, _⟩; rfl) (by rw [rQLastG]; exact vQLastG _ _)
theorem hQFill : cQFill.Holds objs Try.prog := runCtr_holds (X := cxQ Try.prog) objsOk mixed hctsQ (callable _ Try.func37 (by kernel_rfl) (by kernel_rfl)) (by rintro ins _ ⟨_, _, _, rfl, _⟩; rfl) (by rw [rQFill]; exact vQFill _ _)
end Go.Proofs.Ytjohihkbampbgaa
