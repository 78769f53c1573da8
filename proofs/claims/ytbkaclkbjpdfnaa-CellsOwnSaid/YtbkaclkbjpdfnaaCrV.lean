/- The contracts of the document's memories hold. -/
import Derived.Test.YtbkaclkbjpdfnaaCrT
namespace Go.Proofs.Ytbkaclkbjpdfnaa
set_option linter.unusedVariables false
set_option linter.unusedSimpArgs false
set_option linter.unusedSectionVars false
open Go

section
variable {M : MemSt} {at_ x y : Int}
theorem load_in (h : 0 ≤ at_) (h' : at_ < M.W.length) : M.load at_ = ⟨M.W, 1, at_, M.W[at_.toNat]?.getD 0, M.W[at_.toNat]?.getD 0, false, IntKind.i64.wrap (M.N + 1)⟩ := by
  have e : M.is at_ = true := by simp [MemSt.is]; omega
  have h1 : M.W.set at_.toNat (M.W[at_.toNat]?.getD 0) = M.W := by
    apply List.ext_getElem?
    intro j
    by_cases hj : at_.toNat = j
    · subst hj
      rw [List.getElem?_set_self (by omega), List.getElem?_eq_getElem (by omega)]
      rfl
    · rw [List.getElem?_set_ne hj]
  simp [MemSt.load, MemSt.acc, e, MemSt.word, List.getD, h1]
theorem load_out (h : at_ < 0 ∨ M.W.length ≤ at_) : M.load at_ = ⟨M.W, 1, at_, 0, 0, false, IntKind.i64.wrap (M.N + 1)⟩ := by
  have e : M.is at_ = false := by simp [MemSt.is]; omega
  simp [MemSt.load, MemSt.acc, e]
theorem store_in (h : 0 ≤ at_) (h' : at_ < M.W.length) : M.store at_ x = ⟨M.W.set at_.toNat x, 2, at_, M.W[at_.toNat]?.getD 0, x, true, IntKind.i64.wrap (M.N + 1)⟩ := by
  have e : M.is at_ = true := by simp [MemSt.is]; omega
  simp [MemSt.store, MemSt.acc, e, MemSt.word, List.getD]
theorem store_out (h : at_ < 0 ∨ M.W.length ≤ at_) : M.store at_ x = ⟨M.W, 2, at_, 0, 0, false, IntKind.i64.wrap (M.N + 1)⟩ := by
  have e : M.is at_ = false := by simp [MemSt.is]; omega
  simp [MemSt.store, MemSt.acc, e]
theorem add_in (h : 0 ≤ at_) (h' : at_ < M.W.length) : M.add at_ x = ⟨M.W.set at_.toNat (IntKind.u64.wrap (M.W[at_.toNat]?.getD 0 + x)), 4, at_, M.W[at_.toNat]?.getD 0, IntKind.u64.wrap (M.W[at_.toNat]?.getD 0 + x), true, IntKind.i64.wrap (M.N + 1)⟩ := by
  have e : M.is at_ = true := by simp [MemSt.is]; omega
  simp [MemSt.add, MemSt.acc, e, MemSt.word, List.getD]
theorem add_out (h : at_ < 0 ∨ M.W.length ≤ at_) : M.add at_ x = ⟨M.W, 4, at_, 0, 0, false, IntKind.i64.wrap (M.N + 1)⟩ := by
  have e : M.is at_ = false := by simp [MemSt.is]; omega
  simp [MemSt.add, MemSt.acc, e]
theorem cas_is (h : 0 ≤ at_) (h' : at_ < M.W.length) (hx : M.W[at_.toNat]?.getD 0 = x) : M.cas at_ x y = ⟨M.W.set at_.toNat y, 3, at_, x, y, true, IntKind.i64.wrap (M.N + 1)⟩ := by
  have e : M.is at_ = true := by simp [MemSt.is]; omega
  simp [MemSt.cas, MemSt.acc, e, MemSt.word, List.getD, hx]
theorem cas_not (h : 0 ≤ at_) (h' : at_ < M.W.length) (hx : ¬ M.W[at_.toNat]?.getD 0 = x) : M.cas at_ x y = ⟨M.W, 3, at_, M.W[at_.toNat]?.getD 0, M.W[at_.toNat]?.getD 0, false, IntKind.i64.wrap (M.N + 1)⟩ := by
  have e : M.is at_ = true := by simp [MemSt.is]; omega
  have h1 : M.W.set at_.toNat (M.W[at_.toNat]?.getD 0) = M.W := by
    apply List.ext_getElem?
    intro j
    by_cases hj : at_.toNat = j
    · subst hj
      rw [List.getElem?_set_self (by omega), List.getElem?_eq_getElem (by omega)]
      rfl
    · rw [List.getElem?_set_ne hj]
  simp [MemSt.cas, MemSt.acc, e, MemSt.word, List.getD, hx, h1]
theorem cas_out (h : at_ < 0 ∨ M.W.length ≤ at_) : M.cas at_ x y = ⟨M.W, 3, at_, 0, 0, false, IntKind.i64.wrap (M.N + 1)⟩ := by
  have e : M.is at_ = false := by simp [MemSt.is]; omega
  unfold MemSt.cas
  split <;> simp [MemSt.acc, e]
end


theorem cmp_is {a b : Int} (h : a = b) : cmpDen .eql a b = true := (cmp_eql_t _ _).mpr h
theorem cmp_isnt {a b : Int} (h : ¬ a = b) : cmpDen .eql a b = false := (cmp_eql_f _ _).mpr h
theorem set_get {W : List Int} {j : Nat} {x : Int} (h : j < W.length) : (W.set j x)[j]?.getD 0 = x := by rw [List.getElem?_set_self h]; rfl
set_option maxHeartbeats 1000000 in
theorem vRLoad (P : Program) : ∀ ins, ins.length = cRLoad.nin → cRLoad.pre ins → tRLoad.sat (cx P []) (ctrR cRLoad) ins := by
  rintro ins _ ⟨M, at_, rfl, hM⟩
  simp only [Tree.sat, Bx.den, Ex.den, Bnd.den, gI, gB, gL, gF, gN, gNil, List.map_cons, List.map_nil, List.cons_append, List.nil_append, List.getElem?_cons_zero, List.getElem?_cons_succ, List.getD, Option.getD_some, cmp_eql_t, cmp_eql_f, cmp_neq_t, cmp_neq_f, cmp_lss_t, cmp_lss_f, cmp_leq_t, cmp_leq_f, cmp_gtr_t, cmp_gtr_f, cmp_geq_t, cmp_geq_f, Bool.not_eq_true', Bool.not_eq_false', Bool.and_eq_true, Bool.and_eq_false_iff, binDen, ctrR, List.take_succ_cons, List.take_zero, Option.some.injEq, EV.u.injEq, tRLoad, cRLoad, rNums, rOut, List.length_set]
  repeat' (first | apply And.intro | intro _)
  all_goals first | omega | rw [load_out (M := M) (by omega)] | rw [load_in (M := M) (by omega) (by omega)]
set_option maxHeartbeats 1000000 in
theorem vRStore (P : Program) : ∀ ins, ins.length = cRStore.nin → cRStore.pre ins → tRStore.sat (cx P []) (ctrR cRStore) ins := by
  rintro ins _ ⟨M, at_, x, rfl, hM⟩
  simp only [Tree.sat, Bx.den, Ex.den, Bnd.den, gI, gB, gL, gF, gN, gNil, List.map_cons, List.map_nil, List.cons_append, List.nil_append, List.getElem?_cons_zero, List.getElem?_cons_succ, List.getD, Option.getD_some, cmp_eql_t, cmp_eql_f, cmp_neq_t, cmp_neq_f, cmp_lss_t, cmp_lss_f, cmp_leq_t, cmp_leq_f, cmp_gtr_t, cmp_gtr_f, cmp_geq_t, cmp_geq_f, Bool.not_eq_true', Bool.not_eq_false', Bool.and_eq_true, Bool.and_eq_false_iff, binDen, ctrR, List.take_succ_cons, List.take_zero, Option.some.injEq, EV.u.injEq, tRStore, cRStore, rNums, rOut, List.length_set]
  repeat' (first | apply And.intro | intro _)
  all_goals first | omega | rw [store_out (M := M) (by omega)] | rw [store_in (M := M) (by omega) (by omega), set_get (by omega)]
set_option maxHeartbeats 1000000 in
theorem vRAdd (P : Program) : ∀ ins, ins.length = cRAdd.nin → cRAdd.pre ins → tRAdd.sat (cx P []) (ctrR cRAdd) ins := by
  rintro ins _ ⟨M, at_, x, rfl, hM⟩
  simp only [Tree.sat, Bx.den, Ex.den, Bnd.den, gI, gB, gL, gF, gN, gNil, List.map_cons, List.map_nil, List.cons_append, List.nil_append, List.getElem?_cons_zero, List.getElem?_cons_succ, List.getD, Option.getD_some, cmp_eql_t, cmp_eql_f, cmp_neq_t, cmp_neq_f, cmp_lss_t, cmp_lss_f, cmp_leq_t, cmp_leq_f, cmp_gtr_t, cmp_gtr_f, cmp_geq_t, cmp_geq_f, Bool.not_eq_true', Bool.not_eq_false', Bool.and_eq_true, Bool.and_eq_false_iff, binDen, ctrR, List.take_succ_cons, List.take_zero, Option.some.injEq, EV.u.injEq, tRAdd, cRAdd, rNums, rOut, List.length_set]
  repeat' (first | apply And.intro | intro _)
  all_goals first | omega | rw [add_out (M := M) (by omega)] | rw [add_in (M := M) (by omega) (by omega), set_get (by omega)]
set_option maxHeartbeats 1000000 in
theorem vRCAS (P : Program) : ∀ ins, ins.length = cRCAS.nin → cRCAS.pre ins → tRCAS.sat (cx P []) (ctrR cRCAS) ins := by
  rintro ins _ ⟨M, at_, x, y, rfl, hM⟩
  simp only [Tree.sat, Bx.den, Ex.den, Bnd.den, gI, gB, gL, gF, gN, gNil, List.map_cons, List.map_nil, List.cons_append, List.nil_append, List.getElem?_cons_zero, List.getElem?_cons_succ, List.getD, Option.getD_some, cmp_eql_t, cmp_eql_f, cmp_neq_t, cmp_neq_f, cmp_lss_t, cmp_lss_f, cmp_leq_t, cmp_leq_f, cmp_gtr_t, cmp_gtr_f, cmp_geq_t, cmp_geq_f, Bool.not_eq_true', Bool.not_eq_false', Bool.and_eq_true, Bool.and_eq_false_iff, binDen, ctrR, List.take_succ_cons, List.take_zero, Option.some.injEq, EV.u.injEq, tRCAS, cRCAS, rNums, rOut, List.length_set]
  repeat' (first | apply And.intro | intro _)
  all_goals first | omega | rw [cas_out (M := M) (by omega)] | (rename_i hx; rw [cas_is (M := M) (by omega) (by omega) hx, set_get (by omega), cmp_is hx, hx]; done) | (rename_i hx; rw [cas_not (M := M) (by omega) (by omega) hx, cmp_isnt hx])
theorem hRLoad : cRLoad.Holds objs Try.prog := runCtr_holds (X := cx Try.prog []) objsOk mixed noCts (callable _ Try.func38 (by kernel_rfl) (by kernel_rfl)) (by rintro ins _ ⟨M, at_, rfl, _⟩; rfl) (by rw [rRLoad]; exact vRLoad _)
theorem hRStore : cRStore.Holds objs Try.prog := runCtr_holds (X := cx Try.prog []) objsOk mixed noCts (callable _ Try.func39 (by kernel_rfl) (by kernel_rfl)) (by rintro ins _ ⟨M, at_, x, rfl, _⟩; rfl) (by rw [rRStore]; exact vRStore _)
theorem hRCAS : cRCAS.Holds objs Try.prog := runCtr_holds (X := cx Try.prog []) objsOk mixed noCts (callable _ Try.func40 (by kernel_rfl) (by kernel_rfl)) (by rintro ins _ ⟨M, at_, x, y, rfl, _⟩; rfl) (by rw [rRCAS]; exact vRCAS _)
theorem hRAdd : cRAdd.Holds objs Try.prog := runCtr_holds (X := cx Try.prog []) objsOk mixed noCts (callable _ Try.func41 (by kernel_rfl) (by kernel_rfl)) (by rintro ins _ ⟨M, at_, x, rfl, _⟩; rfl) (by rw [rRAdd]; exact vRAdd _)
end Go.Proofs.Ytbkaclkbjpdfnaa
