/- The document's memories as objects: the contracts hold. -/
import Derived.Test.YtdabdbbgaekmdaaGreatRmT
namespace Go.Proofs.YtdabdbbgaekmdaaGreat
set_option linter.unusedVariables false
set_option linter.unusedSimpArgs false
set_option linter.unusedSectionVars false
open Go

theorem nomore_rmem {M : MemSt} : ∀ (t : Nat) (T : ObjT U) (ps : List (EV U)), objs[t]? = some T → t ∉ [3] → ps.length = T.nv → T.ok ps → some (EV.u (U.rmem M)) ≠ some (EV.u (T.obj ps)) := by
  exact nomore_kind (by show ∀ t, t < 44 → t ∉ [3] → kinds.getD t 0 ≠ 4; decide)
theorem rmemOk_mk {l : List Int} {s k a o n N : Int} {h : Bool} (e : (l.length : Int) = s) : rmemOk [.l l, .i s, .i k, .i a, .i o, .i n, .b h, .i N] := ⟨_, _, _, _, _, _, _, _, rfl, e⟩
set_option maxHeartbeats 1000000 in
theorem vQLoad (P : Program) (hs : List (Nat × Nat × List Nat)) : ∀ ins, ins.length = cQLoad.nin → cQLoad.pre ins → tQLoad.sat { cx P [] with hints := hs } (ctrR cQLoad) ins := by
  rintro ins _ ⟨M, at_, rfl, hM⟩
  simp only [Tree.sat, Bx.den, Ex.den, Bnd.den, gI, gB, gL, gF, gN, gNil, List.map_cons, List.map_nil, List.cons_append, List.nil_append, List.getElem?_cons_zero, List.getElem?_cons_succ, List.getD, Option.getD_some, cmp_eql_t, cmp_eql_f, cmp_neq_t, cmp_neq_f, cmp_lss_t, cmp_lss_f, cmp_leq_t, cmp_leq_f, cmp_gtr_t, cmp_gtr_f, cmp_geq_t, cmp_geq_f, Bool.not_eq_true', Bool.not_eq_false', Bool.and_eq_true, Bool.and_eq_false_iff, binDen, ctrR, Ctr.may, List.take_succ_cons, List.take_zero, Option.some.injEq, EV.u.injEq, tQLoad, cx, objs]
  refine ⟨?_, nomore_rmem⟩
  rintro ps hl ⟨l, s, k, a, o, n, h, N, rfl, hlen⟩ he
  injection he with he; subst he
  have hM : l.length ≤ 4096 := hM
  simp only [Tree.sat, Bx.den, Ex.den, Bnd.den, gI, gB, gL, gF, gN, gNil, List.map_cons, List.map_nil, List.cons_append, List.nil_append, List.getElem?_cons_zero, List.getElem?_cons_succ, List.getD, Option.getD_some, cmp_eql_t, cmp_eql_f, cmp_neq_t, cmp_neq_f, cmp_lss_t, cmp_lss_f, cmp_leq_t, cmp_leq_f, cmp_gtr_t, cmp_gtr_f, cmp_geq_t, cmp_geq_f, Bool.not_eq_true', Bool.not_eq_false', Bool.and_eq_true, Bool.and_eq_false_iff, binDen, ctrR, Ctr.may, List.take_succ_cons, List.take_zero, Option.some.injEq, EV.u.injEq, rmemT, rmemObj, cQLoad, List.length_set]
  repeat' (first | with_reducible apply And.intro | intro _)
  all_goals first
    | omega
    | exact rmemOk_mk (by simpa using hlen)
    | trivial
    | (rw [load_out (M := ⟨l, k, a, o, n, h, N⟩) (by show at_ < 0 ∨ (l.length : Int) ≤ at_; omega)])
    | (rw [load_in (M := ⟨l, k, a, o, n, h, N⟩) (by omega) (by show at_ < (l.length : Int); omega)])
set_option maxHeartbeats 1000000 in
theorem vQStore (P : Program) (hs : List (Nat × Nat × List Nat)) : ∀ ins, ins.length = cQStore.nin → cQStore.pre ins → tQStore.sat { cx P [] with hints := hs } (ctrR cQStore) ins := by
  rintro ins _ ⟨M, at_, x, rfl, hM⟩
  simp only [Tree.sat, Bx.den, Ex.den, Bnd.den, gI, gB, gL, gF, gN, gNil, List.map_cons, List.map_nil, List.cons_append, List.nil_append, List.getElem?_cons_zero, List.getElem?_cons_succ, List.getD, Option.getD_some, cmp_eql_t, cmp_eql_f, cmp_neq_t, cmp_neq_f, cmp_lss_t, cmp_lss_f, cmp_leq_t, cmp_leq_f, cmp_gtr_t, cmp_gtr_f, cmp_geq_t, cmp_geq_f, Bool.not_eq_true', Bool.not_eq_false', Bool.and_eq_true, Bool.and_eq_false_iff, binDen, ctrR, Ctr.may, List.take_succ_cons, List.take_zero, Option.some.injEq, EV.u.injEq, tQStore, cx, objs]
  refine ⟨?_, nomore_rmem⟩
  rintro ps hl ⟨l, s, k, a, o, n, h, N, rfl, hlen⟩ he
  injection he with he; subst he
  have hM : l.length ≤ 4096 := hM
  simp only [Tree.sat, Bx.den, Ex.den, Bnd.den, gI, gB, gL, gF, gN, gNil, List.map_cons, List.map_nil, List.cons_append, List.nil_append, List.getElem?_cons_zero, List.getElem?_cons_succ, List.getD, Option.getD_some, cmp_eql_t, cmp_eql_f, cmp_neq_t, cmp_neq_f, cmp_lss_t, cmp_lss_f, cmp_leq_t, cmp_leq_f, cmp_gtr_t, cmp_gtr_f, cmp_geq_t, cmp_geq_f, Bool.not_eq_true', Bool.not_eq_false', Bool.and_eq_true, Bool.and_eq_false_iff, binDen, ctrR, Ctr.may, List.take_succ_cons, List.take_zero, Option.some.injEq, EV.u.injEq, rmemT, rmemObj, cQStore, List.length_set]
  repeat' (first | with_reducible apply And.intro | intro _)
  all_goals first
    | omega
    | exact rmemOk_mk (by simpa using hlen)
    | trivial
    | (rw [store_out (M := ⟨l, k, a, o, n, h, N⟩) (by show at_ < 0 ∨ (l.length : Int) ≤ at_; omega)])
    | (rw [store_in (M := ⟨l, k, a, o, n, h, N⟩) (by omega) (by show at_ < (l.length : Int); omega), set_get (by omega)])
set_option maxHeartbeats 1000000 in
theorem vQCAS (P : Program) (hs : List (Nat × Nat × List Nat)) : ∀ ins, ins.length = cQCAS.nin → cQCAS.pre ins → tQCAS.sat { cx P [] with hints := hs } (ctrR cQCAS) ins := by
  rintro ins _ ⟨M, at_, x, y, rfl, hM⟩
  simp only [Tree.sat, Bx.den, Ex.den, Bnd.den, gI, gB, gL, gF, gN, gNil, List.map_cons, List.map_nil, List.cons_append, List.nil_append, List.getElem?_cons_zero, List.getElem?_cons_succ, List.getD, Option.getD_some, cmp_eql_t, cmp_eql_f, cmp_neq_t, cmp_neq_f, cmp_lss_t, cmp_lss_f, cmp_leq_t, cmp_leq_f, cmp_gtr_t, cmp_gtr_f, cmp_geq_t, cmp_geq_f, Bool.not_eq_true', Bool.not_eq_false', Bool.and_eq_true, Bool.and_eq_false_iff, binDen, ctrR, Ctr.may, List.take_succ_cons, List.take_zero, Option.some.injEq, EV.u.injEq, tQCAS, cx, objs]
  refine ⟨?_, nomore_rmem⟩
  rintro ps hl ⟨l, s, k, a, o, n, h, N, rfl, hlen⟩ he
  injection he with he; subst he
  have hM : l.length ≤ 4096 := hM
  simp only [Tree.sat, Bx.den, Ex.den, Bnd.den, gI, gB, gL, gF, gN, gNil, List.map_cons, List.map_nil, List.cons_append, List.nil_append, List.getElem?_cons_zero, List.getElem?_cons_succ, List.getD, Option.getD_some, cmp_eql_t, cmp_eql_f, cmp_neq_t, cmp_neq_f, cmp_lss_t, cmp_lss_f, cmp_leq_t, cmp_leq_f, cmp_gtr_t, cmp_gtr_f, cmp_geq_t, cmp_geq_f, Bool.not_eq_true', Bool.not_eq_false', Bool.and_eq_true, Bool.and_eq_false_iff, binDen, ctrR, Ctr.may, List.take_succ_cons, List.take_zero, Option.some.injEq, EV.u.injEq, rmemT, rmemObj, cQCAS, List.length_set]
  repeat' (first | with_reducible apply And.intro | intro _)
  all_goals first
    | omega
    | exact rmemOk_mk (by simpa using hlen)
    | trivial
    | (rw [cas_out (M := ⟨l, k, a, o, n, h, N⟩) (by show at_ < 0 ∨ (l.length : Int) ≤ at_; omega)])
    | (rename_i hx; rw [cas_is (M := ⟨l, k, a, o, n, h, N⟩) (by omega) (by show at_ < (l.length : Int); omega) hx, set_get (by omega), cmp_is hx, hx]; done)
    | (rename_i hx; rw [cas_not (M := ⟨l, k, a, o, n, h, N⟩) (by omega) (by show at_ < (l.length : Int); omega) hx, cmp_isnt hx])
set_option maxHeartbeats 1000000 in
theorem vQAt (P : Program) (hs : List (Nat × Nat × List Nat)) : ∀ ins, ins.length = cQAt.nin → cQAt.pre ins → tQAt.sat { cx P [] with hints := hs } (ctrR cQAt) ins := by
  rintro ins _ ⟨M, at_, rfl, hM⟩
  simp only [Tree.sat, Bx.den, Ex.den, Bnd.den, gI, gB, gL, gF, gN, gNil, List.map_cons, List.map_nil, List.cons_append, List.nil_append, List.getElem?_cons_zero, List.getElem?_cons_succ, List.getD, Option.getD_some, cmp_eql_t, cmp_eql_f, cmp_neq_t, cmp_neq_f, cmp_lss_t, cmp_lss_f, cmp_leq_t, cmp_leq_f, cmp_gtr_t, cmp_gtr_f, cmp_geq_t, cmp_geq_f, Bool.not_eq_true', Bool.not_eq_false', Bool.and_eq_true, Bool.and_eq_false_iff, binDen, ctrR, Ctr.may, List.take_succ_cons, List.take_zero, Option.some.injEq, EV.u.injEq, tQAt, cx, objs]
  refine ⟨?_, nomore_rmem⟩
  rintro ps hl ⟨l, s, k, a, o, n, h, N, rfl, hlen⟩ he
  injection he with he; subst he
  have hM : l.length ≤ 4096 := hM
  simp only [Tree.sat, Bx.den, Ex.den, Bnd.den, gI, gB, gL, gF, gN, gNil, List.map_cons, List.map_nil, List.cons_append, List.nil_append, List.getElem?_cons_zero, List.getElem?_cons_succ, List.getD, Option.getD_some, cmp_eql_t, cmp_eql_f, cmp_neq_t, cmp_neq_f, cmp_lss_t, cmp_lss_f, cmp_leq_t, cmp_leq_f, cmp_gtr_t, cmp_gtr_f, cmp_geq_t, cmp_geq_f, Bool.not_eq_true', Bool.not_eq_false', Bool.and_eq_true, Bool.and_eq_false_iff, binDen, ctrR, Ctr.may, List.take_succ_cons, List.take_zero, Option.some.injEq, EV.u.injEq, rmemT, rmemObj, cQAt, List.length_set]
  repeat' (first | with_reducible apply And.intro | intro _)
  all_goals first
    | omega
    | exact rmemOk_mk (by simpa using hlen)
    | trivial
    | (rw [if_neg (by show ¬ (0 ≤ at_ ∧ at_ < (l.length : Int)); omega)])
    | (rw [if_pos (by show 0 ≤ at_ ∧ at_ < (l.length : Int); omega)])
set_option maxHeartbeats 1000000 in
theorem vQLast (P : Program) (hs : List (Nat × Nat × List Nat)) : ∀ ins, ins.length = cQLast.nin → cQLast.pre ins → tQLast.sat { cx P [] with hints := hs } (ctrR cQLast) ins := by
  rintro ins _ ⟨M, rfl⟩
  simp only [Tree.sat, Bx.den, Ex.den, Bnd.den, gI, gB, gL, gF, gN, gNil, List.map_cons, List.map_nil, List.cons_append, List.nil_append, List.getElem?_cons_zero, List.getElem?_cons_succ, List.getD, Option.getD_some, cmp_eql_t, cmp_eql_f, cmp_neq_t, cmp_neq_f, cmp_lss_t, cmp_lss_f, cmp_leq_t, cmp_leq_f, cmp_gtr_t, cmp_gtr_f, cmp_geq_t, cmp_geq_f, Bool.not_eq_true', Bool.not_eq_false', Bool.and_eq_true, Bool.and_eq_false_iff, binDen, ctrR, Ctr.may, List.take_succ_cons, List.take_zero, Option.some.injEq, EV.u.injEq, tQLast, cx, objs]
  refine ⟨?_, nomore_rmem⟩
  rintro ps hl ⟨l, s, k, a, o, n, h, N, rfl, hlen⟩ he
  injection he with he; subst he
  simp only [Tree.sat, Bx.den, Ex.den, Bnd.den, gI, gB, gL, gF, gN, gNil, List.map_cons, List.map_nil, List.cons_append, List.nil_append, List.getElem?_cons_zero, List.getElem?_cons_succ, List.getD, Option.getD_some, cmp_eql_t, cmp_eql_f, cmp_neq_t, cmp_neq_f, cmp_lss_t, cmp_lss_f, cmp_leq_t, cmp_leq_f, cmp_gtr_t, cmp_gtr_f, cmp_geq_t, cmp_geq_f, Bool.not_eq_true', Bool.not_eq_false', Bool.and_eq_true, Bool.and_eq_false_iff, binDen, ctrR, Ctr.may, List.take_succ_cons, List.take_zero, Option.some.injEq, EV.u.injEq, rmemT, rmemObj, cQLast, List.length_set]
  repeat' (first | with_reducible apply And.intro | intro _)
  all_goals first
    | omega
    | exact rmemOk_mk (by simpa using hlen)
    | trivial
set_option maxHeartbeats 1000000 in
theorem vQCount (P : Program) (hs : List (Nat × Nat × List Nat)) : ∀ ins, ins.length = cQCount.nin → cQCount.pre ins → tQCount.sat { cx P [] with hints := hs } (ctrR cQCount) ins := by
  rintro ins _ ⟨M, rfl⟩
  simp only [Tree.sat, Bx.den, Ex.den, Bnd.den, gI, gB, gL, gF, gN, gNil, List.map_cons, List.map_nil, List.cons_append, List.nil_append, List.getElem?_cons_zero, List.getElem?_cons_succ, List.getD, Option.getD_some, cmp_eql_t, cmp_eql_f, cmp_neq_t, cmp_neq_f, cmp_lss_t, cmp_lss_f, cmp_leq_t, cmp_leq_f, cmp_gtr_t, cmp_gtr_f, cmp_geq_t, cmp_geq_f, Bool.not_eq_true', Bool.not_eq_false', Bool.and_eq_true, Bool.and_eq_false_iff, binDen, ctrR, Ctr.may, List.take_succ_cons, List.take_zero, Option.some.injEq, EV.u.injEq, tQCount, cx, objs]
  refine ⟨?_, nomore_rmem⟩
  rintro ps hl ⟨l, s, k, a, o, n, h, N, rfl, hlen⟩ he
  injection he with he; subst he
  simp only [Tree.sat, Bx.den, Ex.den, Bnd.den, gI, gB, gL, gF, gN, gNil, List.map_cons, List.map_nil, List.cons_append, List.nil_append, List.getElem?_cons_zero, List.getElem?_cons_succ, List.getD, Option.getD_some, cmp_eql_t, cmp_eql_f, cmp_neq_t, cmp_neq_f, cmp_lss_t, cmp_lss_f, cmp_leq_t, cmp_leq_f, cmp_gtr_t, cmp_gtr_f, cmp_geq_t, cmp_geq_f, Bool.not_eq_true', Bool.not_eq_false', Bool.and_eq_true, Bool.and_eq_false_iff, binDen, ctrR, Ctr.may, List.take_succ_cons, List.take_zero, Option.some.injEq, EV.u.injEq, rmemT, rmemObj, cQCount, List.length_set]
  repeat' (first | with_reducible apply And.intro | intro _)
  all_goals first
    | omega
    | exact rmemOk_mk (by simpa using hlen)
    | trivial
set_option maxHeartbeats 1000000 in
theorem vQNew (P : Program) (hs : List (Nat × Nat × List Nat)) : ∀ ins, ins.length = cQNew.nin → cQNew.pre ins → tQNew.sat { cx P [] with hints := hs } (ctrR cQNew) ins := by
  rintro ins _ ⟨n, rfl⟩
  unfold tQNew
  simp only [Tree.sat, Bx.den, Ex.den, Bnd.den, gI, gB, gL, gF, gN, gNil, List.map_cons, List.map_nil, List.cons_append, List.nil_append, List.getElem?_cons_zero, List.getElem?_cons_succ, List.getD, Option.getD_some, cmp_eql_t, cmp_eql_f, cmp_neq_t, cmp_neq_f, cmp_lss_t, cmp_lss_f, cmp_leq_t, cmp_leq_f, cmp_gtr_t, cmp_gtr_f, cmp_geq_t, cmp_geq_f, Bool.not_eq_true', Bool.not_eq_false', Bool.and_eq_true, Bool.and_eq_false_iff, binDen, ctrR, Ctr.may, List.take_succ_cons, List.take_zero, Option.some.injEq, EV.u.injEq, rmemT, rmemNilT, rmemObj, cQNew, cx, objs, List.length_set]
  repeat' (first | with_reducible apply And.intro | intro _)
  all_goals first
    | omega
    | exact rmemOk_mk (by simp; omega)
    | trivial
    | (rw [if_neg (by omega)])
    | (rw [if_pos (by omega), MemSt.new])
set_option maxHeartbeats 1000000 in
theorem vQWords (P : Program) (hs : List (Nat × Nat × List Nat)) : ∀ ins, ins.length = cQWords.nin → cQWords.pre ins → tQWords.sat { cx P [] with hints := hs } (ctrR cQWords) ins := by
  rintro ins _ ⟨M, rfl, hM0, hM⟩
  simp only [Tree.sat, Bx.den, Ex.den, Bnd.den, gI, gB, gL, gF, gN, gNil, List.map_cons, List.map_nil, List.cons_append, List.nil_append, List.getElem?_cons_zero, List.getElem?_cons_succ, List.getD, Option.getD_some, cmp_eql_t, cmp_eql_f, cmp_neq_t, cmp_neq_f, cmp_lss_t, cmp_lss_f, cmp_leq_t, cmp_leq_f, cmp_gtr_t, cmp_gtr_f, cmp_geq_t, cmp_geq_f, Bool.not_eq_true', Bool.not_eq_false', Bool.and_eq_true, Bool.and_eq_false_iff, binDen, ctrR, Ctr.may, List.take_succ_cons, List.take_zero, Option.some.injEq, EV.u.injEq, tQWords, cx, objs]
  refine ⟨?_, nomore_rmem⟩
  rintro ps hl ⟨l, s, k, a, o, n, h, N, rfl, hlen⟩ he
  injection he with he; subst he
  have hM0 : 1 ≤ l.length := hM0
  have hM : l.length ≤ 4096 := hM
  simp only [Tree.sat, Bx.den, Ex.den, Bnd.den, gI, gB, gL, gF, gN, gNil, List.map_cons, List.map_nil, List.cons_append, List.nil_append, List.getElem?_cons_zero, List.getElem?_cons_succ, List.getD, Option.getD_some, cmp_eql_t, cmp_eql_f, cmp_neq_t, cmp_neq_f, cmp_lss_t, cmp_lss_f, cmp_leq_t, cmp_leq_f, cmp_gtr_t, cmp_gtr_f, cmp_geq_t, cmp_geq_f, Bool.not_eq_true', Bool.not_eq_false', Bool.and_eq_true, Bool.and_eq_false_iff, binDen, ctrR, Ctr.may, List.take_succ_cons, List.take_zero, Option.some.injEq, EV.u.injEq, rmemT, rmemObj, cQWords, List.length_set]
  repeat' (first | with_reducible apply And.intro | intro _)
  all_goals first
    | omega
    | exact rmemOk_mk (by simpa using hlen)
    | trivial
    | (rename_i c; refine ⟨List.replicate c 0, ?_⟩; rw [← hlen, Int.toNat_natCast, List.take_length, List.length_replicate])
    | (exfalso; omega)
theorem hQWords : cQWords.Holds objs Tryz.prog := runCtr_holdsm (X := cx Tryz.prog []) objsOk mixed noCts (callable _ Tryz.func28 (by kernel_rfl) (by kernel_rfl)) (by rintro ins outs _ ⟨_, rfl, _⟩ ⟨c, rfl⟩; rfl) (by rw [rQWords]; exact vQWords _ _)
theorem hQLoad : cQLoad.Holds objs Tryz.prog := runCtr_holds (X := cx Tryz.prog []) objsOk mixed noCts (callable _ Tryz.func109 (by kernel_rfl) (by kernel_rfl)) (by rintro ins _ ⟨_, _, rfl, _⟩; rfl) (by rw [rQLoad]; exact vQLoad _ _)
theorem hQStore : cQStore.Holds objs Tryz.prog := runCtr_holds (X := cx Tryz.prog []) objsOk mixed noCts (callable _ Tryz.func63 (by kernel_rfl) (by kernel_rfl)) (by rintro ins _ ⟨_, _, _, rfl, _⟩; rfl) (by rw [rQStore]; exact vQStore _ _)
theorem hQCAS : cQCAS.Holds objs Tryz.prog := runCtr_holds (X := cx Tryz.prog []) objsOk mixed noCts (callable _ Tryz.func111 (by kernel_rfl) (by kernel_rfl)) (by rintro ins _ ⟨_, _, _, _, rfl, _⟩; rfl) (by rw [rQCAS]; exact vQCAS _ _)
theorem hQAt : cQAt.Holds objs Tryz.prog := runCtr_holds (X := cx Tryz.prog []) objsOk mixed noCts (callable _ Tryz.func116 (by kernel_rfl) (by kernel_rfl)) (by rintro ins _ ⟨_, _, rfl, _⟩; rfl) (by rw [rQAt]; exact vQAt _ _)
theorem hQLast : cQLast.Holds objs Tryz.prog := runCtr_holds (X := cx Tryz.prog []) objsOk mixed noCts (callable _ Tryz.func23 (by kernel_rfl) (by kernel_rfl)) (by rintro ins _ ⟨_, rfl⟩; rfl) (by rw [rQLast]; exact vQLast _ _)
theorem hQCount : cQCount.Holds objs Tryz.prog := runCtr_holds (X := cx Tryz.prog []) objsOk mixed noCts (callable _ Tryz.func25 (by kernel_rfl) (by kernel_rfl)) (by rintro ins _ ⟨_, rfl⟩; rfl) (by rw [rQCount]; exact vQCount _ _)
theorem hQNew : cQNew.Holds objs Tryz.prog := runCtr_holds (X := cx Tryz.prog []) objsOk mixed noCts (callable _ Tryz.func60 (by kernel_rfl) (by kernel_rfl)) (by rintro ins _ ⟨n, rfl⟩; simp only [cQNew]; split <;> rfl) (by rw [rQNew]; exact vQNew _ _)
end Go.Proofs.YtdabdbbgaekmdaaGreat
