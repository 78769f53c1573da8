/- More contracts of memories hold. -/
import Derived.Test.YtbkaclkbjpdfnaaCdT
import Derived.Test.YtbkaclkbjpdfnaaCwV
namespace Go.Proofs.Ytbkaclkbjpdfnaa
set_option linter.unusedVariables false
set_option linter.unusedSimpArgs false
set_option linter.unusedSectionVars false
open Go

theorem u64_wrap (n : Int) : IntKind.u64.wrap n = n % 18446744073709551616 := by
  rw [IntKind.wrap_u64]
set_option maxHeartbeats 1000000 in
theorem vAdd (P : Program) : ∀ ins, ins.length = cAdd.nin → cAdd.pre ins → tAdd.sat (cx P []) (ctrR cAdd) ins := by
  rintro ins _ ⟨M, at_, x, rfl⟩
  simp only [Tree.sat, Bx.den, Ex.den, Bnd.den, gI, gB, gL, gF, gN, gNil, List.map_cons, List.map_nil, List.cons_append, List.nil_append, List.getElem?_cons_zero, List.getElem?_cons_succ, List.getD, Option.getD_some, cmp_eql_t, cmp_eql_f, cmp_neq_t, cmp_neq_f, cmp_lss_t, cmp_lss_f, cmp_leq_t, cmp_leq_f, cmp_gtr_t, cmp_gtr_f, cmp_geq_t, cmp_geq_f, Bool.not_eq_true', Bool.not_eq_false', Bool.and_eq_true, Bool.and_eq_false_iff, binDen, ctrR, List.take_succ_cons, List.take_zero, Option.some.injEq, EV.u.injEq, tAdd, cx, objs]
  refine ⟨?_, nomore_mem⟩
  rintro ps hl ⟨l, s, k, a, o, n, h, N, rfl, h1, h2, h3⟩ he
  injection he with he; subst he
  simp only [Tree.sat, Bx.den, Ex.den, Bnd.den, gI, gB, gL, gF, gN, gNil, List.map_cons, List.map_nil, List.cons_append, List.nil_append, List.getElem?_cons_zero, List.getElem?_cons_succ, List.getD, Option.getD_some, cmp_eql_t, cmp_eql_f, cmp_neq_t, cmp_neq_f, cmp_lss_t, cmp_lss_f, cmp_leq_t, cmp_leq_f, cmp_gtr_t, cmp_gtr_f, cmp_geq_t, cmp_geq_f, Bool.not_eq_true', Bool.not_eq_false', Bool.and_eq_true, Bool.and_eq_false_iff, binDen, ctrR, List.take_succ_cons, List.take_zero, Option.some.injEq, EV.u.injEq, memT, memObj, cAdd, List.length_set]
  refine ⟨fun g => ⟨memOk_mk h1 h2 h3, ?_⟩, fun g => ⟨fun g2 => ⟨memOk_mk h1 h2 h3, ?_⟩, fun g2 => ⟨by omega, by omega, by omega, by omega, by omega, by omega, by omega, by omega, memOk_mk (by simpa using h1) h2 h3, ?_⟩⟩⟩
  · rw [MemSt.add, mem_out h1 h2 h3 (.inl g)]
  · rw [MemSt.add, mem_out h1 h2 h3 (.inr g2)]
  · rw [MemSt.add, mem_word (by omega) (by omega), mem_in h1 h3 (by omega) (by omega)]
set_option maxHeartbeats 1000000 in
theorem vSize (P : Program) : ∀ ins, ins.length = cSize.nin → cSize.pre ins → tSize.sat (cx P []) (ctrR cSize) ins := by
  rintro ins _ ⟨M, rfl⟩
  simp only [Tree.sat, Bx.den, Ex.den, Bnd.den, gI, gB, gL, gF, gN, gNil, List.map_cons, List.map_nil, List.cons_append, List.nil_append, List.getElem?_cons_zero, List.getElem?_cons_succ, List.getD, Option.getD_some, cmp_eql_t, cmp_eql_f, cmp_neq_t, cmp_neq_f, cmp_lss_t, cmp_lss_f, cmp_leq_t, cmp_leq_f, cmp_gtr_t, cmp_gtr_f, cmp_geq_t, cmp_geq_f, Bool.not_eq_true', Bool.not_eq_false', Bool.and_eq_true, Bool.and_eq_false_iff, binDen, ctrR, List.take_succ_cons, List.take_zero, Option.some.injEq, EV.u.injEq, tSize, cx, objs]
  refine ⟨?_, nomore_mem⟩
  rintro ps hl ⟨l, s, k, a, o, n, h, N, rfl, h1, h2, h3⟩ he
  injection he with he; subst he
  simp only [Tree.sat, Bx.den, Ex.den, Bnd.den, gI, gB, gL, gF, gN, gNil, List.map_cons, List.map_nil, List.cons_append, List.nil_append, List.getElem?_cons_zero, List.getElem?_cons_succ, List.getD, Option.getD_some, cmp_eql_t, cmp_eql_f, cmp_neq_t, cmp_neq_f, cmp_lss_t, cmp_lss_f, cmp_leq_t, cmp_leq_f, cmp_gtr_t, cmp_gtr_f, cmp_geq_t, cmp_geq_f, Bool.not_eq_true', Bool.not_eq_false', Bool.and_eq_true, Bool.and_eq_false_iff, binDen, ctrR, List.take_succ_cons, List.take_zero, Option.some.injEq, EV.u.injEq, memT, memObj, cSize]
  refine ⟨memOk_mk h1 h2 h3, ?_⟩
  have : (l.take s.toNat).length = s.toNat := by rw [List.length_take]; omega
  rw [this, Int.toNat_of_nonneg h2]
set_option maxHeartbeats 1000000 in
theorem vCopy (P : Program) : ∀ ins, ins.length = cCopy.nin → cCopy.pre ins → tCopy.sat (cx P []) (ctrR cCopy) ins := by
  rintro ins _ ⟨M, rfl⟩
  simp only [Tree.sat, Bx.den, Ex.den, Bnd.den, gI, gB, gL, gF, gN, gNil, List.map_cons, List.map_nil, List.cons_append, List.nil_append, List.getElem?_cons_zero, List.getElem?_cons_succ, List.getD, Option.getD_some, cmp_eql_t, cmp_eql_f, cmp_neq_t, cmp_neq_f, cmp_lss_t, cmp_lss_f, cmp_leq_t, cmp_leq_f, cmp_gtr_t, cmp_gtr_f, cmp_geq_t, cmp_geq_f, Bool.not_eq_true', Bool.not_eq_false', Bool.and_eq_true, Bool.and_eq_false_iff, binDen, ctrR, List.take_succ_cons, List.take_zero, Option.some.injEq, EV.u.injEq, tCopy, cx, objs]
  refine ⟨?_, nomore_mem⟩
  rintro ps hl ⟨l, s, k, a, o, n, h, N, rfl, h1, h2, h3⟩ he
  injection he with he; subst he
  simp only [Tree.sat, Bx.den, Ex.den, Bnd.den, gI, gB, gL, gF, gN, gNil, List.map_cons, List.map_nil, List.cons_append, List.nil_append, List.getElem?_cons_zero, List.getElem?_cons_succ, List.getD, Option.getD_some, cmp_eql_t, cmp_eql_f, cmp_neq_t, cmp_neq_f, cmp_lss_t, cmp_lss_f, cmp_leq_t, cmp_leq_f, cmp_gtr_t, cmp_gtr_f, cmp_geq_t, cmp_geq_f, Bool.not_eq_true', Bool.not_eq_false', Bool.and_eq_true, Bool.and_eq_false_iff, binDen, ctrR, List.take_succ_cons, List.take_zero, Option.some.injEq, EV.u.injEq, memT, memObj, cCopy]
  exact ⟨by omega, by rw [List.length_replicate]; rfl, by omega, memOk_mk h1 h2 h3, memOk_mk h1 h2 h3, trivial⟩
theorem hAdd : cAdd.Holds objs Try.prog := runCtr_holds (X := cx Try.prog []) objsOk mixed noCts (callable _ Try.func28 (by kernel_rfl) (by kernel_rfl)) (by rintro ins _ ⟨M, at_, x, rfl⟩; rfl) (by rw [rAdd]; exact vAdd _)
theorem hSize : cSize.Holds objs Try.prog := runCtr_holds (X := cx Try.prog []) objsOk mixed noCts (callable _ Try.func42 (by kernel_rfl) (by kernel_rfl)) (by rintro ins _ ⟨M, rfl⟩; rfl) (by rw [rSize]; exact vSize _)
theorem hCopy : cCopy.Holds objs Try.prog := runCtr_holds (X := cx Try.prog []) objsOk mixed noCts (callable _ Try.func44 (by kernel_rfl) (by kernel_rfl)) (by rintro ins _ ⟨M, rfl⟩; rfl) (by rw [rCopy]; exact vCopy _)
end Go.Proofs.Ytbkaclkbjpdfnaa
