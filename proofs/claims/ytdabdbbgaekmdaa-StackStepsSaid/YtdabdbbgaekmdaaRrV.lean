/- The document's memories as open blocks: the contracts hold. -/
import Derived.Test.YtdabdbbgaekmdaaRrT
namespace Go.Proofs.Ytdabdbbgaekmdaa
set_option linter.unusedVariables false
set_option linter.unusedSimpArgs false
set_option linter.unusedSectionVars false
open Go

set_option maxHeartbeats 1000000 in
theorem vRLoad (P : Program) (hs : List (Nat × Nat × List Nat)) : ∀ ins, ins.length = cRLoad.nin → cRLoad.pre ins → tRLoad.sat { cx P [] with hints := hs } (ctrR cRLoad) ins := by
  rintro ins _ ⟨M, x, rfl, hM⟩
  obtain ⟨l, k, a, o, n, h, N⟩ := M
  have hM : l.length ≤ 4096 := hM
  simp only [Tree.sat, Bx.den, Ex.den, Bnd.den, gI, gB, gL, gF, gN, gNil, List.map_cons, List.map_nil, List.cons_append, List.nil_append, List.getElem?_cons_zero, List.getElem?_cons_succ, List.getD, Option.getD_some, cmp_eql_t, cmp_eql_f, cmp_neq_t, cmp_neq_f, cmp_lss_t, cmp_lss_f, cmp_leq_t, cmp_leq_f, cmp_gtr_t, cmp_gtr_f, cmp_geq_t, cmp_geq_f, Bool.not_eq_true', Bool.not_eq_false', Bool.and_eq_true, Bool.and_eq_false_iff, binDen, ctrR, Ctr.may, List.take_succ_cons, List.take_zero, Option.some.injEq, EV.u.injEq, tRLoad, cx, cRLoad, rmR, List.length_set]
  repeat' (first | with_reducible apply And.intro | intro _)
  all_goals first
    | omega
    | trivial
    | (rw [load_out (M := ⟨l, k, a, o, n, h, N⟩) (by show x < 0 ∨ (l.length : Int) ≤ x; omega)]; done)
    | (rw [load_out (M := ⟨l, k, a, o, n, h, N⟩) (by show x < 0 ∨ (l.length : Int) ≤ x; omega)]; rfl)
    | (rw [load_in (M := ⟨l, k, a, o, n, h, N⟩) (by omega) (by show x < (l.length : Int); omega)]; done)
    | (rw [load_in (M := ⟨l, k, a, o, n, h, N⟩) (by omega) (by show x < (l.length : Int); omega)]; rfl)
set_option maxHeartbeats 1000000 in
theorem vRStore (P : Program) (hs : List (Nat × Nat × List Nat)) : ∀ ins, ins.length = cRStore.nin → cRStore.pre ins → tRStore.sat { cx P [] with hints := hs } (ctrR cRStore) ins := by
  rintro ins _ ⟨M, x, y, rfl, hM⟩
  obtain ⟨l, k, a, o, n, h, N⟩ := M
  have hM : l.length ≤ 4096 := hM
  simp only [Tree.sat, Bx.den, Ex.den, Bnd.den, gI, gB, gL, gF, gN, gNil, List.map_cons, List.map_nil, List.cons_append, List.nil_append, List.getElem?_cons_zero, List.getElem?_cons_succ, List.getD, Option.getD_some, cmp_eql_t, cmp_eql_f, cmp_neq_t, cmp_neq_f, cmp_lss_t, cmp_lss_f, cmp_leq_t, cmp_leq_f, cmp_gtr_t, cmp_gtr_f, cmp_geq_t, cmp_geq_f, Bool.not_eq_true', Bool.not_eq_false', Bool.and_eq_true, Bool.and_eq_false_iff, binDen, ctrR, Ctr.may, List.take_succ_cons, List.take_zero, Option.some.injEq, EV.u.injEq, tRStore, cx, cRStore, rmR, List.length_set]
  repeat' (first | with_reducible apply And.intro | intro _)
  all_goals first
    | omega
    | trivial
    | (rw [store_out (M := ⟨l, k, a, o, n, h, N⟩) (by show x < 0 ∨ (l.length : Int) ≤ x; omega)]; done)
    | (rw [store_out (M := ⟨l, k, a, o, n, h, N⟩) (by show x < 0 ∨ (l.length : Int) ≤ x; omega)]; rfl)
    | (rw [store_in (M := ⟨l, k, a, o, n, h, N⟩) (by omega) (by show x < (l.length : Int); omega), set_get (by omega), List.length_set]; done)
    | (rw [store_in (M := ⟨l, k, a, o, n, h, N⟩) (by omega) (by show x < (l.length : Int); omega), set_get (by omega)]; simp only [List.length_set])
set_option maxHeartbeats 1000000 in
theorem vRCAS (P : Program) (hs : List (Nat × Nat × List Nat)) : ∀ ins, ins.length = cRCAS.nin → cRCAS.pre ins → tRCAS.sat { cx P [] with hints := hs } (ctrR cRCAS) ins := by
  rintro ins _ ⟨M, x, y, z, rfl, hM⟩
  obtain ⟨l, k, a, o, n, h, N⟩ := M
  have hM : l.length ≤ 4096 := hM
  simp only [Tree.sat, Bx.den, Ex.den, Bnd.den, gI, gB, gL, gF, gN, gNil, List.map_cons, List.map_nil, List.cons_append, List.nil_append, List.getElem?_cons_zero, List.getElem?_cons_succ, List.getD, Option.getD_some, cmp_eql_t, cmp_eql_f, cmp_neq_t, cmp_neq_f, cmp_lss_t, cmp_lss_f, cmp_leq_t, cmp_leq_f, cmp_gtr_t, cmp_gtr_f, cmp_geq_t, cmp_geq_f, Bool.not_eq_true', Bool.not_eq_false', Bool.and_eq_true, Bool.and_eq_false_iff, binDen, ctrR, Ctr.may, List.take_succ_cons, List.take_zero, Option.some.injEq, EV.u.injEq, tRCAS, cx, cRCAS, rmR, List.length_set]
  repeat' (first | with_reducible apply And.intro | intro _)
  all_goals first
    | omega
    | trivial
    | (rw [cas_out (M := ⟨l, k, a, o, n, h, N⟩) (by show x < 0 ∨ (l.length : Int) ≤ x; omega)]; done)
    | (rw [cas_out (M := ⟨l, k, a, o, n, h, N⟩) (by show x < 0 ∨ (l.length : Int) ≤ x; omega)]; rfl)
    | (rename_i hx; rw [cas_is (M := ⟨l, k, a, o, n, h, N⟩) (by omega) (by show x < (l.length : Int); omega) hx, set_get (by omega), cmp_is hx, hx]; simp only [List.length_set])
    | (rename_i hx; rw [cas_is (M := ⟨l, k, a, o, n, h, N⟩) (by omega) (by show x < (l.length : Int); omega) hx, set_get (by omega), cmp_is hx, hx]; done)
    | (rename_i hx; rw [cas_not (M := ⟨l, k, a, o, n, h, N⟩) (by omega) (by show x < (l.length : Int); omega) hx, cmp_isnt hx]; done)
    | (rename_i hx; rw [cas_not (M := ⟨l, k, a, o, n, h, N⟩) (by omega) (by show x < (l.length : Int); omega) hx, cmp_isnt hx]; rfl)
set_option maxHeartbeats 1000000 in
theorem vRAt (P : Program) (hs : List (Nat × Nat × List Nat)) : ∀ ins, ins.length = cRAt.nin → cRAt.pre ins → tRAt.sat { cx P [] with hints := hs } (ctrR cRAt) ins := by
  rintro ins _ ⟨M, x, rfl, hM⟩
  obtain ⟨l, k, a, o, n, h, N⟩ := M
  have hM : l.length ≤ 4096 := hM
  simp only [Tree.sat, Bx.den, Ex.den, Bnd.den, gI, gB, gL, gF, gN, gNil, List.map_cons, List.map_nil, List.cons_append, List.nil_append, List.getElem?_cons_zero, List.getElem?_cons_succ, List.getD, Option.getD_some, cmp_eql_t, cmp_eql_f, cmp_neq_t, cmp_neq_f, cmp_lss_t, cmp_lss_f, cmp_leq_t, cmp_leq_f, cmp_gtr_t, cmp_gtr_f, cmp_geq_t, cmp_geq_f, Bool.not_eq_true', Bool.not_eq_false', Bool.and_eq_true, Bool.and_eq_false_iff, binDen, ctrR, Ctr.may, List.take_succ_cons, List.take_zero, Option.some.injEq, EV.u.injEq, tRAt, cx, cRAt, rmR, List.length_set]
  repeat' (first | with_reducible apply And.intro | intro _)
  all_goals first
    | omega
    | trivial
    | (rw [MemSt.at0, if_neg (by show ¬ (0 ≤ x ∧ x < (l.length : Int)); omega)]; done)
    | (rw [MemSt.at0, if_pos (by show 0 ≤ x ∧ x < (l.length : Int); omega)]; done)
set_option maxHeartbeats 1000000 in
theorem vRNew (P : Program) (hs : List (Nat × Nat × List Nat)) : ∀ ins, ins.length = cRNew.nin → cRNew.pre ins → tRNew.sat { cx P [] with hints := hs } (ctrR cRNew) ins := by
  rintro ins _ ⟨n, rfl, h0, h1⟩
  simp only [Tree.sat, Bx.den, Ex.den, Bnd.den, gI, gB, gL, gF, gN, gNil, List.map_cons, List.map_nil, List.cons_append, List.nil_append, List.getElem?_cons_zero, List.getElem?_cons_succ, List.getD, Option.getD_some, cmp_eql_t, cmp_eql_f, cmp_neq_t, cmp_neq_f, cmp_lss_t, cmp_lss_f, cmp_leq_t, cmp_leq_f, cmp_gtr_t, cmp_gtr_f, cmp_geq_t, cmp_geq_f, Bool.not_eq_true', Bool.not_eq_false', Bool.and_eq_true, Bool.and_eq_false_iff, binDen, ctrR, Ctr.may, List.take_succ_cons, List.take_zero, Option.some.injEq, EV.u.injEq, tRNew, cRNew, cx, rmR, MemSt.new, List.length_set, List.length_replicate]
  repeat' (first | with_reducible apply And.intro | intro _)
  all_goals first
    | omega
    | trivial
    | (rw [show ((n.toNat : Nat) : Int) = n by omega]; done)
theorem hRLoad : cRLoad.Holds objs Try.prog := runCtr_holds (X := { cx Try.prog [] with hints := hsRLoad }) objsOk mixed noCts (callable _ Try.func127 (by kernel_rfl) (by kernel_rfl)) (by rintro ins _ ⟨_, _, rfl, _⟩; rfl) (by rw [rRLoad]; exact vRLoad _ _)
theorem hRStore : cRStore.Holds objs Try.prog := runCtr_holds (X := { cx Try.prog [] with hints := hsRStore }) objsOk mixed noCts (callable _ Try.func86 (by kernel_rfl) (by kernel_rfl)) (by rintro ins _ ⟨_, _, _, rfl, _⟩; rfl) (by rw [rRStore]; exact vRStore _ _)
theorem hRCAS : cRCAS.Holds objs Try.prog := runCtr_holds (X := { cx Try.prog [] with hints := hsRCAS }) objsOk mixed noCts (callable _ Try.func128 (by kernel_rfl) (by kernel_rfl)) (by rintro ins _ ⟨_, _, _, _, rfl, _⟩; rfl) (by rw [rRCAS]; exact vRCAS _ _)
theorem hRAt : cRAt.Holds objs Try.prog := runCtr_holds (X := { cx Try.prog [] with hints := hsRAt }) objsOk mixed noCts (callable _ Try.func97 (by kernel_rfl) (by kernel_rfl)) (by rintro ins _ ⟨_, _, rfl, _⟩; rfl) (by rw [rRAt]; exact vRAt _ _)
theorem hRNew : cRNew.Holds objs Try.prog := runCtr_holds (X := { cx Try.prog [] with hints := hsRNew }) objsOk mixed noCts (callable _ Try.func84 (by kernel_rfl) (by kernel_rfl)) (by rintro ins _ ⟨_, rfl, _⟩; rfl) (by rw [rRNew]; exact vRNew _ _)
end Go.Proofs.Ytdabdbbgaekmdaa
