/- Stacks: what a core is within, told side by side: the contracts hold. -/
import Derived.Test.YtdabdbbgaekmdaaKsT
namespace Go.Proofs.Ytdabdbbgaekmdaa
set_option linter.unusedVariables false
set_option linter.unusedSimpArgs false
set_option linter.unusedSectionVars false
open Go Go.RowKit

/-! ### what stays as it may be -/
theorem fine_stepPo {P : PopSt} {M : MemSt} (hP : P.ok) (h : M.fine) : (stepPo P M).2.fine := by
  unfold stepPo
  split
  · exact fine_load h _
  · split
    · exact fine_load h _
    · split
      · exact fine_cas h (topW_isW hP.2.2.1 hP.2.2.2)
      · exact h
theorem fine_stepPu {P : PushSt} {M : MemSt} (hP : P.ok) (h : M.fine) : (stepPu P M).2.fine := by
  unfold stepPu
  split
  · exact fine_load h _
  · split
    · have g1 := idxW_lo P.size P.w
      have g2 := idxW_hi P.size P.w
      exact fine_store h ⟨by omega, by omega⟩
    · split
      · exact fine_cas h (topW_isW (Int.le_trans (by decide) hP.2.2.1) hP.2.2.2)
      · exact h
theorem fine_stepAl {P : AllSt} {M : MemSt} (hP : P.ok) (h : M.fine) : (stepAl P M).2.fine := by
  unfold stepAl
  split
  · exact fine_load h _
  · split
    · exact fine_cas h (topW_isW (by decide) (by decide))
    · exact h
theorem ok_stepPo {P : PopSt} {M : MemSt} (h : P.ok) (hM : M.fine) : (stepPo P M).1.ok := by
  obtain ⟨g1, g2, g3, g4⟩ := h
  unfold stepPo
  split
  · refine ⟨?_, n_load hM _, g3, g4⟩
    show ((if idxW P.size (M.load P.top).n < 0 then (9 : Int) else 2) = 1 ∨ ((if idxW P.size (M.load P.top).n < 0 then (9 : Int) else 2) = 2 ∨ (if idxW P.size (M.load P.top).n < 0 then (9 : Int) else 2) = 3) ∧ 0 ≤ idxW P.size (M.load P.top).n ∨ (if idxW P.size (M.load P.top).n < 0 then (9 : Int) else 2) = 9)
    split
    · exact .inr (.inr rfl)
    · exact .inr (.inl ⟨.inl rfl, by omega⟩)
  · split
    · refine ⟨.inr (.inl ⟨.inr rfl, by show 0 ≤ P.i; omega⟩), g2, idxW_lo _ _, idxW_hi _ _⟩
    · split
      · refine ⟨?_, g2, g3, g4⟩
        show ((if (M.cas P.top P.w (topW P.j P.w)).h = true then (9 : Int) else 1) = 1 ∨ ((if (M.cas P.top P.w (topW P.j P.w)).h = true then (9 : Int) else 1) = 2 ∨ (if (M.cas P.top P.w (topW P.j P.w)).h = true then (9 : Int) else 1) = 3) ∧ 0 ≤ P.i ∨ (if (M.cas P.top P.w (topW P.j P.w)).h = true then (9 : Int) else 1) = 9)
        split
        · exact .inr (.inr rfl)
        · exact .inl rfl
      · exact ⟨g1, g2, g3, g4⟩
theorem ok_stepPu {P : PushSt} {M : MemSt} (h : P.ok) (hM : M.fine) : (stepPu P M).1.ok := by
  obtain ⟨g1, g2, g3, g4⟩ := h
  unfold stepPu
  split
  · exact ⟨.inl ⟨.inr (.inl rfl), by show P.err = 0; omega⟩, n_load hM _, g3, g4⟩
  · split
    · exact ⟨.inl ⟨.inr (.inr rfl), by show P.err = 0; omega⟩, g2, g3, g4⟩
    · split
      · have he : P.err = 0 := by omega
        refine ⟨?_, g2, g3, g4⟩
        show ((if (M.cas P.top P.w (topW P.i P.w)).h = true then (9 : Int) else 1) = 1 ∨ (if (M.cas P.top P.w (topW P.i P.w)).h = true then (9 : Int) else 1) = 2 ∨ (if (M.cas P.top P.w (topW P.i P.w)).h = true then (9 : Int) else 1) = 3) ∧ P.err = 0 ∨ (if (M.cas P.top P.w (topW P.i P.w)).h = true then (9 : Int) else 1) = 9
        split
        · exact .inr rfl
        · exact .inl ⟨.inl rfl, he⟩
      · exact ⟨g1, g2, g3, g4⟩
theorem ok_stepAl {P : AllSt} {M : MemSt} (h : P.ok) (hM : M.fine) : (stepAl P M).1.ok := by
  obtain ⟨g1, g2⟩ := h
  unfold stepAl
  split
  · refine ⟨?_, n_load hM _⟩
    show (if idxW P.size (M.load P.top).n < 0 then (9 : Int) else 2) = 1 ∨ (if idxW P.size (M.load P.top).n < 0 then (9 : Int) else 2) = 2 ∧ 0 ≤ idxW P.size (M.load P.top).n ∨ (if idxW P.size (M.load P.top).n < 0 then (9 : Int) else 2) = 9
    split
    · exact .inr (.inr rfl)
    · exact .inr (.inl ⟨rfl, by omega⟩)
  · split
    · refine ⟨?_, g2⟩
      show (if (M.cas P.top P.w (topW (-1) P.w)).h = true then (9 : Int) else 1) = 1 ∨ (if (M.cas P.top P.w (topW (-1) P.w)).h = true then (9 : Int) else 1) = 2 ∧ 0 ≤ P.i ∨ (if (M.cas P.top P.w (topW (-1) P.w)).h = true then (9 : Int) else 1) = 9
      split
      · exact .inr (.inr rfl)
      · exact .inl rfl
    · exact ⟨g1, g2⟩
theorem isW0' : isW 0 := ⟨by decide, by decide⟩
theorem ok_newPo {t l s : Int} : (newPo t l s).ok := ⟨.inl rfl, isW0', by show (-1 : Int) ≤ 0; decide, by show (0 : Int) ≤ 65534; decide⟩
theorem ok_newPu {t l s i : Int} (h : s ≤ 65535) : (newPu t l s i).ok := by
  unfold newPu; split
  · exact ⟨.inr rfl, isW0', by show (0 : Int) ≤ 0; decide, by show (0 : Int) ≤ 65534; decide⟩
  · exact ⟨.inl ⟨.inl rfl, rfl⟩, isW0', by show (0 : Int) ≤ i; omega, by show i ≤ 65534; omega⟩
theorem ok_newAl {t l s : Int} : (newAl t l s).ok := ⟨.inl rfl, isW0'⟩
theorem ok_mayS {o : CoreS} {M : MemSt} {s : Bool} (h : o.ok) (hM : M.fine) : (o.may M s).1.ok := by
  unfold CoreS.may
  split
  · rcases o with _ | P | P | P
    · exact h
    · exact ok_stepPo h hM
    · exact ok_stepPu h hM
    · exact ok_stepAl h hM
  · exact h
theorem fine_mayS {o : CoreS} {M : MemSt} {s : Bool} (h : o.ok) (hM : M.fine) : (o.may M s).2.fine := by
  unfold CoreS.may
  split
  · rcases o with _ | P | P | P
    · exact hM
    · exact fine_stepPo h hM
    · exact fine_stepPu h hM
    · exact fine_stepAl h hM
  · exact hM

/-! ### what a core is within, told side by side -/
theorem out_Postep (P : PopSt) (M : MemSt) : cPoStep.out [.u (.pop P), .u (.mem M)] = [.u (.pop (stepPo P M).1), .u (.mem (stepPo P M).2), .b ((stepPo P M).1.line == 9)] := rfl
theorem out_rPostep (P : PopSt) (M : MemSt) : cRPoStep.out [.u (.rpop P), .l M.W, .i M.W.length, .i M.k, .i M.a, .i M.o, .i M.n, .b M.h, .i M.N] = [.u (.rpop (stepPo P M).1), .l (stepPo P M).2.W, .i (stepPo P M).2.W.length, .i (stepPo P M).2.k, .i (stepPo P M).2.a, .i (stepPo P M).2.o, .i (stepPo P M).2.n, .b (stepPo P M).2.h, .i (stepPo P M).2.N, .b ((stepPo P M).1.line == 9)] := rfl
theorem out_Pustep (P : PushSt) (M : MemSt) : cPuStep.out [.u (.push P), .u (.mem M)] = [.u (.push (stepPu P M).1), .u (.mem (stepPu P M).2), .b ((stepPu P M).1.line == 9)] := rfl
theorem out_rPustep (P : PushSt) (M : MemSt) : cRPuStep.out [.u (.rpush P), .l M.W, .i M.W.length, .i M.k, .i M.a, .i M.o, .i M.n, .b M.h, .i M.N] = [.u (.rpush (stepPu P M).1), .l (stepPu P M).2.W, .i (stepPu P M).2.W.length, .i (stepPu P M).2.k, .i (stepPu P M).2.a, .i (stepPu P M).2.o, .i (stepPu P M).2.n, .b (stepPu P M).2.h, .i (stepPu P M).2.N, .b ((stepPu P M).1.line == 9)] := rfl
theorem out_Alstep (P : AllSt) (M : MemSt) : cAlStep.out [.u (.all P), .u (.mem M)] = [.u (.all (stepAl P M).1), .u (.mem (stepAl P M).2), .b ((stepAl P M).1.line == 9)] := rfl
theorem out_rAlstep (P : AllSt) (M : MemSt) : cRAlStep.out [.u (.rall P), .l M.W, .i M.W.length, .i M.k, .i M.a, .i M.o, .i M.n, .b M.h, .i M.N] = [.u (.rall (stepAl P M).1), .l (stepAl P M).2.W, .i (stepAl P M).2.W.length, .i (stepAl P M).2.k, .i (stepAl P M).2.a, .i (stepAl P M).2.o, .i (stepAl P M).2.n, .b (stepAl P M).2.h, .i (stepAl P M).2.N, .b ((stepAl P M).1.line == 9)] := rfl
theorem out_poidx (P : PopSt) : cPoIndex.out [.u (.pop P)] = [.u (.pop P), .i (toldS P.line P.i).1, .i (toldS P.line P.i).2] := rfl
theorem out_qpoidx (P : PopSt) : cQPoIndex.out [.u (.rpop P)] = [.u (.rpop P), .i (toldS P.line P.i).1, .i (toldS P.line P.i).2] := rfl
theorem out_puerr (P : PushSt) : cPuErr.out [.u (.push P)] = [.u (.push P), .i (errPu P)] := rfl
theorem out_qpuerr (P : PushSt) : cQPuErr.out [.u (.rpush P)] = [.u (.rpush P), .i (errPu P)] := rfl
theorem out_alidx (P : AllSt) : cAlIndex.out [.u (.all P)] = [.u (.all P), .i (toldS P.line P.i).1, .i (toldS P.line P.i).2] := rfl
theorem out_qalidx (P : AllSt) : cQAlIndex.out [.u (.rall P)] = [.u (.rall P), .i (toldS P.line P.i).1, .i (toldS P.line P.i).2] := rfl
theorem cmp_selfS (x : Int) : cmpDen .eql x x = true := by simp [cmpDen]
theorem ko_none : koA .none = .popNil ∧ koB .none = .rpopNil ∧ koC .none = .pushNil ∧ koD .none = .rpushNil ∧ koE .none = .allNil ∧ koF .none = .rallNil := ⟨rfl, rfl, rfl, rfl, rfl, rfl⟩
theorem ko_pop (P : PopSt) : koA (.pop P) = .pop P ∧ koB (.pop P) = .rpop P ∧ koC (.pop P) = .pushNil ∧ koD (.pop P) = .rpushNil ∧ koE (.pop P) = .allNil ∧ koF (.pop P) = .rallNil := ⟨rfl, rfl, rfl, rfl, rfl, rfl⟩
theorem ko_push (P : PushSt) : koA (.push P) = .popNil ∧ koB (.push P) = .rpopNil ∧ koC (.push P) = .push P ∧ koD (.push P) = .rpush P ∧ koE (.push P) = .allNil ∧ koF (.push P) = .rallNil := ⟨rfl, rfl, rfl, rfl, rfl, rfl⟩
theorem ko_all (P : AllSt) : koA (.all P) = .popNil ∧ koB (.all P) = .rpopNil ∧ koC (.all P) = .pushNil ∧ koD (.all P) = .rpushNil ∧ koE (.all P) = .all P ∧ koF (.all P) = .rall P := ⟨rfl, rfl, rfl, rfl, rfl, rfl⟩
set_option maxHeartbeats 4000000 in
theorem vToldS (P : Program) (hs : List (Nat × Nat × List Nat)) : ∀ ins, ins.length = cToldS.nin → cToldS.pre ins → tToldS.sat { cx P ctsKO with hints := hs } (ctrR cToldS) ins := by
  rintro ins _ ⟨o, M, s, rfl, h, hM⟩
  rcases o with _ | p | p | p <;> cases s
  all_goals
    simp only [ko_none, ko_pop, ko_push, ko_all, rmR, List.cons_append, List.nil_append]
    unfold tToldS
    repeat' (first
      | (first
        | (with_reducible refine st_need ?_ ?_
           focus (simp only [Bx.den, Ex.den, Bnd.den, gI, gB, gL, gF, gN, gNil, List.map_cons, List.map_nil, List.cons_append, List.nil_append, List.getElem?_cons_zero, List.getElem?_cons_succ, List.getD, Option.getD_some, cmp_eql_t, cmp_eql_f, cmp_neq_t, cmp_neq_f, cmp_lss_t, cmp_lss_f, cmp_leq_t, cmp_leq_f, cmp_gtr_t, cmp_gtr_f, cmp_geq_t, cmp_geq_f, Bool.not_eq_true', Bool.not_eq_false', Bool.and_eq_true, Bool.and_eq_false_iff, binDen, Option.some.injEq, EV.u.injEq, Nil.isNil, beq_self_eq_true, and_self, true_and, and_true, or_false, false_or, or_self, not_true_eq_false, not_false_eq_true, ne_eq, Bool.true_eq_false, Bool.false_eq_true, reduceCtorEq, h, cmp_selfS] <;> first | omega | assumption))
        | (with_reducible refine st_and ?_ ?_)
        | (with_reducible exact st_ok)
        | (with_reducible refine st_br (fun hc => ?_) (fun hc => ?_) <;> (simp only [Bx.den, Ex.den, Bnd.den, gI, gB, gL, gF, gN, gNil, List.map_cons, List.map_nil, List.cons_append, List.nil_append, List.getElem?_cons_zero, List.getElem?_cons_succ, List.getD, Option.getD_some, cmp_eql_t, cmp_eql_f, cmp_neq_t, cmp_neq_f, cmp_lss_t, cmp_lss_f, cmp_leq_t, cmp_leq_f, cmp_gtr_t, cmp_gtr_f, cmp_geq_t, cmp_geq_f, Bool.not_eq_true', Bool.not_eq_false', Bool.and_eq_true, Bool.and_eq_false_iff, binDen, Option.some.injEq, EV.u.injEq, Nil.isNil, beq_self_eq_true, and_self, true_and, and_true, or_false, false_or, or_self, not_true_eq_false, not_false_eq_true, ne_eq, Bool.true_eq_false, Bool.false_eq_true, reduceCtorEq, h, cmp_selfS] at hc) <;> (try (exfalso; first | contradiction | omega)))
        | (refine st_call (by rfl) (by simp only [Bx.den, Ex.den, Bnd.den, gI, gB, gL, gF, gN, gNil, List.map_cons, List.map_nil, List.cons_append, List.nil_append, List.getElem?_cons_zero, List.getElem?_cons_succ, List.getD, Option.getD_some, cmp_eql_t, cmp_eql_f, cmp_neq_t, cmp_neq_f, cmp_lss_t, cmp_lss_f, cmp_leq_t, cmp_leq_f, cmp_gtr_t, cmp_gtr_f, cmp_geq_t, cmp_geq_f, Bool.not_eq_true', Bool.not_eq_false', Bool.and_eq_true, Bool.and_eq_false_iff, binDen, Option.some.injEq, EV.u.injEq, Nil.isNil, beq_self_eq_true, and_self, true_and, and_true, or_false, false_or, or_self, not_true_eq_false, not_false_eq_true, ne_eq, Bool.true_eq_false, Bool.false_eq_true, reduceCtorEq, h, cmp_selfS] <;> rfl) ?_ (by simp only [out_Postep, out_rPostep, out_poidx, out_qpoidx, out_Pustep, out_rPustep, out_puerr, out_qpuerr, out_Alstep, out_rAlstep, out_alidx, out_qalidx] <;> rfl) (by simp only [List.cons_append, List.nil_append] <;> rfl) ?_
           focus (first | exact ⟨_, _, rfl, h⟩ | exact ⟨_, _, rfl, h, hM⟩ | exact ⟨_, rfl, ok_stepPo h hM⟩ | exact ⟨_, rfl, ok_stepPu h hM⟩ | exact ⟨_, rfl, ok_stepAl h hM⟩ | exact ⟨_, rfl, h⟩))
        | (with_reducible refine st_ret (by simp only [Bx.den, Ex.den, Bnd.den, gI, gB, gL, gF, gN, gNil, List.map_cons, List.map_nil, List.cons_append, List.nil_append, List.getElem?_cons_zero, List.getElem?_cons_succ, List.getD, Option.getD_some, cmp_eql_t, cmp_eql_f, cmp_neq_t, cmp_neq_f, cmp_lss_t, cmp_lss_f, cmp_leq_t, cmp_leq_f, cmp_gtr_t, cmp_gtr_f, cmp_geq_t, cmp_geq_f, Bool.not_eq_true', Bool.not_eq_false', Bool.and_eq_true, Bool.and_eq_false_iff, binDen, Option.some.injEq, EV.u.injEq, Nil.isNil, beq_self_eq_true, and_self, true_and, and_true, or_false, false_or, or_self, not_true_eq_false, not_false_eq_true, ne_eq, Bool.true_eq_false, Bool.false_eq_true, reduceCtorEq, h, cmp_selfS] <;> rfl) ?_
           (first | rfl | exact ⟨_, rfl⟩)))
      | fail "no step")
set_option maxHeartbeats 4000000 in
theorem vToldS1 (P : Program) (hs : List (Nat × Nat × List Nat)) : ∀ ins, ins.length = cToldS1.nin → cToldS1.pre ins → tToldS1.sat { cx P ctsKO with hints := hs } (ctrR cToldS1) ins := by
  rintro ins _ ⟨p, M, s, rfl, rfl, h, hM⟩
  simp only [rmR, List.cons_append, List.nil_append]
  unfold tToldS1
  repeat' (first
    | (first
      | (with_reducible refine st_need ?_ ?_
         focus (simp only [Bx.den, Ex.den, Bnd.den, gI, gB, gL, gF, gN, gNil, List.map_cons, List.map_nil, List.cons_append, List.nil_append, List.getElem?_cons_zero, List.getElem?_cons_succ, List.getD, Option.getD_some, cmp_eql_t, cmp_eql_f, cmp_neq_t, cmp_neq_f, cmp_lss_t, cmp_lss_f, cmp_leq_t, cmp_leq_f, cmp_gtr_t, cmp_gtr_f, cmp_geq_t, cmp_geq_f, Bool.not_eq_true', Bool.not_eq_false', Bool.and_eq_true, Bool.and_eq_false_iff, binDen, Option.some.injEq, EV.u.injEq, Nil.isNil, beq_self_eq_true, and_self, true_and, and_true, or_false, false_or, or_self, not_true_eq_false, not_false_eq_true, ne_eq, Bool.true_eq_false, Bool.false_eq_true, reduceCtorEq, h, cmp_selfS] <;> first | omega | assumption))
      | (with_reducible refine st_and ?_ ?_)
      | (with_reducible exact st_ok)
      | (with_reducible refine st_br (fun hc => ?_) (fun hc => ?_) <;> (simp only [Bx.den, Ex.den, Bnd.den, gI, gB, gL, gF, gN, gNil, List.map_cons, List.map_nil, List.cons_append, List.nil_append, List.getElem?_cons_zero, List.getElem?_cons_succ, List.getD, Option.getD_some, cmp_eql_t, cmp_eql_f, cmp_neq_t, cmp_neq_f, cmp_lss_t, cmp_lss_f, cmp_leq_t, cmp_leq_f, cmp_gtr_t, cmp_gtr_f, cmp_geq_t, cmp_geq_f, Bool.not_eq_true', Bool.not_eq_false', Bool.and_eq_true, Bool.and_eq_false_iff, binDen, Option.some.injEq, EV.u.injEq, Nil.isNil, beq_self_eq_true, and_self, true_and, and_true, or_false, false_or, or_self, not_true_eq_false, not_false_eq_true, ne_eq, Bool.true_eq_false, Bool.false_eq_true, reduceCtorEq, h, cmp_selfS] at hc) <;> (try (exfalso; first | contradiction | omega)))
      | (refine st_call (by rfl) (by simp only [Bx.den, Ex.den, Bnd.den, gI, gB, gL, gF, gN, gNil, List.map_cons, List.map_nil, List.cons_append, List.nil_append, List.getElem?_cons_zero, List.getElem?_cons_succ, List.getD, Option.getD_some, cmp_eql_t, cmp_eql_f, cmp_neq_t, cmp_neq_f, cmp_lss_t, cmp_lss_f, cmp_leq_t, cmp_leq_f, cmp_gtr_t, cmp_gtr_f, cmp_geq_t, cmp_geq_f, Bool.not_eq_true', Bool.not_eq_false', Bool.and_eq_true, Bool.and_eq_false_iff, binDen, Option.some.injEq, EV.u.injEq, Nil.isNil, beq_self_eq_true, and_self, true_and, and_true, or_false, false_or, or_self, not_true_eq_false, not_false_eq_true, ne_eq, Bool.true_eq_false, Bool.false_eq_true, reduceCtorEq, h, cmp_selfS] <;> rfl) ?_ (by simp only [out_Postep, out_rPostep, out_poidx, out_qpoidx, out_Pustep, out_rPustep, out_puerr, out_qpuerr, out_Alstep, out_rAlstep, out_alidx, out_qalidx] <;> rfl) (by simp only [List.cons_append, List.nil_append] <;> rfl) ?_
         focus (first | exact ⟨_, _, rfl, h⟩ | exact ⟨_, _, rfl, h, hM⟩ | exact ⟨_, rfl, ok_stepPo h hM⟩ | exact ⟨_, rfl, ok_stepPu h hM⟩ | exact ⟨_, rfl, ok_stepAl h hM⟩ | exact ⟨_, rfl, h⟩))
      | (with_reducible refine st_ret (by simp only [Bx.den, Ex.den, Bnd.den, gI, gB, gL, gF, gN, gNil, List.map_cons, List.map_nil, List.cons_append, List.nil_append, List.getElem?_cons_zero, List.getElem?_cons_succ, List.getD, Option.getD_some, cmp_eql_t, cmp_eql_f, cmp_neq_t, cmp_neq_f, cmp_lss_t, cmp_lss_f, cmp_leq_t, cmp_leq_f, cmp_gtr_t, cmp_gtr_f, cmp_geq_t, cmp_geq_f, Bool.not_eq_true', Bool.not_eq_false', Bool.and_eq_true, Bool.and_eq_false_iff, binDen, Option.some.injEq, EV.u.injEq, Nil.isNil, beq_self_eq_true, and_self, true_and, and_true, or_false, false_or, or_self, not_true_eq_false, not_false_eq_true, ne_eq, Bool.true_eq_false, Bool.false_eq_true, reduceCtorEq, h, cmp_selfS] <;> rfl) ?_
         (first | rfl | exact ⟨_, rfl⟩)))
    | fail "no step")
set_option maxHeartbeats 4000000 in
theorem vToldS2 (P : Program) (hs : List (Nat × Nat × List Nat)) : ∀ ins, ins.length = cToldS2.nin → cToldS2.pre ins → tToldS2.sat { cx P ctsKO with hints := hs } (ctrR cToldS2) ins := by
  rintro ins _ ⟨p, M, s, rfl, rfl, h, hM⟩
  simp only [rmR, List.cons_append, List.nil_append]
  unfold tToldS2
  repeat' (first
    | (first
      | (with_reducible refine st_need ?_ ?_
         focus (simp only [Bx.den, Ex.den, Bnd.den, gI, gB, gL, gF, gN, gNil, List.map_cons, List.map_nil, List.cons_append, List.nil_append, List.getElem?_cons_zero, List.getElem?_cons_succ, List.getD, Option.getD_some, cmp_eql_t, cmp_eql_f, cmp_neq_t, cmp_neq_f, cmp_lss_t, cmp_lss_f, cmp_leq_t, cmp_leq_f, cmp_gtr_t, cmp_gtr_f, cmp_geq_t, cmp_geq_f, Bool.not_eq_true', Bool.not_eq_false', Bool.and_eq_true, Bool.and_eq_false_iff, binDen, Option.some.injEq, EV.u.injEq, Nil.isNil, beq_self_eq_true, and_self, true_and, and_true, or_false, false_or, or_self, not_true_eq_false, not_false_eq_true, ne_eq, Bool.true_eq_false, Bool.false_eq_true, reduceCtorEq, h, cmp_selfS] <;> first | omega | assumption))
      | (with_reducible refine st_and ?_ ?_)
      | (with_reducible exact st_ok)
      | (with_reducible refine st_br (fun hc => ?_) (fun hc => ?_) <;> (simp only [Bx.den, Ex.den, Bnd.den, gI, gB, gL, gF, gN, gNil, List.map_cons, List.map_nil, List.cons_append, List.nil_append, List.getElem?_cons_zero, List.getElem?_cons_succ, List.getD, Option.getD_some, cmp_eql_t, cmp_eql_f, cmp_neq_t, cmp_neq_f, cmp_lss_t, cmp_lss_f, cmp_leq_t, cmp_leq_f, cmp_gtr_t, cmp_gtr_f, cmp_geq_t, cmp_geq_f, Bool.not_eq_true', Bool.not_eq_false', Bool.and_eq_true, Bool.and_eq_false_iff, binDen, Option.some.injEq, EV.u.injEq, Nil.isNil, beq_self_eq_true, and_self, true_and, and_true, or_false, false_or, or_self, not_true_eq_false, not_false_eq_true, ne_eq, Bool.true_eq_false, Bool.false_eq_true, reduceCtorEq, h, cmp_selfS] at hc) <;> (try (exfalso; first | contradiction | omega)))
      | (refine st_call (by rfl) (by simp only [Bx.den, Ex.den, Bnd.den, gI, gB, gL, gF, gN, gNil, List.map_cons, List.map_nil, List.cons_append, List.nil_append, List.getElem?_cons_zero, List.getElem?_cons_succ, List.getD, Option.getD_some, cmp_eql_t, cmp_eql_f, cmp_neq_t, cmp_neq_f, cmp_lss_t, cmp_lss_f, cmp_leq_t, cmp_leq_f, cmp_gtr_t, cmp_gtr_f, cmp_geq_t, cmp_geq_f, Bool.not_eq_true', Bool.not_eq_false', Bool.and_eq_true, Bool.and_eq_false_iff, binDen, Option.some.injEq, EV.u.injEq, Nil.isNil, beq_self_eq_true, and_self, true_and, and_true, or_false, false_or, or_self, not_true_eq_false, not_false_eq_true, ne_eq, Bool.true_eq_false, Bool.false_eq_true, reduceCtorEq, h, cmp_selfS] <;> rfl) ?_ (by simp only [out_Postep, out_rPostep, out_poidx, out_qpoidx, out_Pustep, out_rPustep, out_puerr, out_qpuerr, out_Alstep, out_rAlstep, out_alidx, out_qalidx] <;> rfl) (by simp only [List.cons_append, List.nil_append] <;> rfl) ?_
         focus (first | exact ⟨_, _, rfl, h⟩ | exact ⟨_, _, rfl, h, hM⟩ | exact ⟨_, rfl, ok_stepPo h hM⟩ | exact ⟨_, rfl, ok_stepPu h hM⟩ | exact ⟨_, rfl, ok_stepAl h hM⟩ | exact ⟨_, rfl, h⟩))
      | (with_reducible refine st_ret (by simp only [Bx.den, Ex.den, Bnd.den, gI, gB, gL, gF, gN, gNil, List.map_cons, List.map_nil, List.cons_append, List.nil_append, List.getElem?_cons_zero, List.getElem?_cons_succ, List.getD, Option.getD_some, cmp_eql_t, cmp_eql_f, cmp_neq_t, cmp_neq_f, cmp_lss_t, cmp_lss_f, cmp_leq_t, cmp_leq_f, cmp_gtr_t, cmp_gtr_f, cmp_geq_t, cmp_geq_f, Bool.not_eq_true', Bool.not_eq_false', Bool.and_eq_true, Bool.and_eq_false_iff, binDen, Option.some.injEq, EV.u.injEq, Nil.isNil, beq_self_eq_true, and_self, true_and, and_true, or_false, false_or, or_self, not_true_eq_false, not_false_eq_true, ne_eq, Bool.true_eq_false, Bool.false_eq_true, reduceCtorEq, h, cmp_selfS] <;> rfl) ?_
         (first | rfl | exact ⟨_, rfl⟩)))
    | fail "no step")
set_option maxHeartbeats 4000000 in
theorem vToldS3 (P : Program) (hs : List (Nat × Nat × List Nat)) : ∀ ins, ins.length = cToldS3.nin → cToldS3.pre ins → tToldS3.sat { cx P ctsKO with hints := hs } (ctrR cToldS3) ins := by
  rintro ins _ ⟨p, M, s, rfl, rfl, h, hM⟩
  simp only [rmR, List.cons_append, List.nil_append]
  unfold tToldS3
  repeat' (first
    | (first
      | (with_reducible refine st_need ?_ ?_
         focus (simp only [Bx.den, Ex.den, Bnd.den, gI, gB, gL, gF, gN, gNil, List.map_cons, List.map_nil, List.cons_append, List.nil_append, List.getElem?_cons_zero, List.getElem?_cons_succ, List.getD, Option.getD_some, cmp_eql_t, cmp_eql_f, cmp_neq_t, cmp_neq_f, cmp_lss_t, cmp_lss_f, cmp_leq_t, cmp_leq_f, cmp_gtr_t, cmp_gtr_f, cmp_geq_t, cmp_geq_f, Bool.not_eq_true', Bool.not_eq_false', Bool.and_eq_true, Bool.and_eq_false_iff, binDen, Option.some.injEq, EV.u.injEq, Nil.isNil, beq_self_eq_true, and_self, true_and, and_true, or_false, false_or, or_self, not_true_eq_false, not_false_eq_true, ne_eq, Bool.true_eq_false, Bool.false_eq_true, reduceCtorEq, h, cmp_selfS] <;> first | omega | assumption))
      | (with_reducible refine st_and ?_ ?_)
      | (with_reducible exact st_ok)
      | (with_reducible refine st_br (fun hc => ?_) (fun hc => ?_) <;> (simp only [Bx.den, Ex.den, Bnd.den, gI, gB, gL, gF, gN, gNil, List.map_cons, List.map_nil, List.cons_append, List.nil_append, List.getElem?_cons_zero, List.getElem?_cons_succ, List.getD, Option.getD_some, cmp_eql_t, cmp_eql_f, cmp_neq_t, cmp_neq_f, cmp_lss_t, cmp_lss_f, cmp_leq_t, cmp_leq_f, cmp_gtr_t, cmp_gtr_f, cmp_geq_t, cmp_geq_f, Bool.not_eq_true', Bool.not_eq_false', Bool.and_eq_true, Bool.and_eq_false_iff, binDen, Option.some.injEq, EV.u.injEq, Nil.isNil, beq_self_eq_true, and_self, true_and, and_true, or_false, false_or, or_self, not_true_eq_false, not_false_eq_true, ne_eq, Bool.true_eq_false, Bool.false_eq_true, reduceCtorEq, h, cmp_selfS] at hc) <;> (try (exfalso; first | contradiction | omega)))
      | (refine st_call (by rfl) (by simp only [Bx.den, Ex.den, Bnd.den, gI, gB, gL, gF, gN, gNil, List.map_cons, List.map_nil, List.cons_append, List.nil_append, List.getElem?_cons_zero, List.getElem?_cons_succ, List.getD, Option.getD_some, cmp_eql_t, cmp_eql_f, cmp_neq_t, cmp_neq_f, cmp_lss_t, cmp_lss_f, cmp_leq_t, cmp_leq_f, cmp_gtr_t, cmp_gtr_f, cmp_geq_t, cmp_geq_f, Bool.not_eq_true', Bool.not_eq_false', Bool.and_eq_true, Bool.and_eq_false_iff, binDen, Option.some.injEq, EV.u.injEq, Nil.isNil, beq_self_eq_true, and_self, true_and, and_true, or_false, false_or, or_self, not_true_eq_false, not_false_eq_true, ne_eq, Bool.true_eq_false, Bool.false_eq_true, reduceCtorEq, h, cmp_selfS] <;> rfl) ?_ (by simp only [out_Postep, out_rPostep, out_poidx, out_qpoidx, out_Pustep, out_rPustep, out_puerr, out_qpuerr, out_Alstep, out_rAlstep, out_alidx, out_qalidx] <;> rfl) (by simp only [List.cons_append, List.nil_append] <;> rfl) ?_
         focus (first | exact ⟨_, _, rfl, h⟩ | exact ⟨_, _, rfl, h, hM⟩ | exact ⟨_, rfl, ok_stepPo h hM⟩ | exact ⟨_, rfl, ok_stepPu h hM⟩ | exact ⟨_, rfl, ok_stepAl h hM⟩ | exact ⟨_, rfl, h⟩))
      | (with_reducible refine st_ret (by simp only [Bx.den, Ex.den, Bnd.den, gI, gB, gL, gF, gN, gNil, List.map_cons, List.map_nil, List.cons_append, List.nil_append, List.getElem?_cons_zero, List.getElem?_cons_succ, List.getD, Option.getD_some, cmp_eql_t, cmp_eql_f, cmp_neq_t, cmp_neq_f, cmp_lss_t, cmp_lss_f, cmp_leq_t, cmp_leq_f, cmp_gtr_t, cmp_gtr_f, cmp_geq_t, cmp_geq_f, Bool.not_eq_true', Bool.not_eq_false', Bool.and_eq_true, Bool.and_eq_false_iff, binDen, Option.some.injEq, EV.u.injEq, Nil.isNil, beq_self_eq_true, and_self, true_and, and_true, or_false, false_or, or_self, not_true_eq_false, not_false_eq_true, ne_eq, Bool.true_eq_false, Bool.false_eq_true, reduceCtorEq, h, cmp_selfS] <;> rfl) ?_
         (first | rfl | exact ⟨_, rfl⟩)))
    | fail "no step")
theorem hToldS : cToldS.Holds objs Try.prog := runCtr_holds (X := { cx Try.prog ctsKO with hints := hsToldS }) objsOk mixed hctsKO (callable _ Try.func41 (by kernel_rfl) (by kernel_rfl)) (by rintro ins _ ⟨o, _, _, rfl, _⟩; cases o <;> rfl) (by rw [rToldS]; exact vToldS _ _)
theorem hToldS1 : cToldS1.Holds objs Try.prog := runCtr_holds (X := { cx Try.prog ctsKO with hints := hsToldS1 }) objsOk mixed hctsKO (callable _ Try.func41 (by kernel_rfl) (by kernel_rfl)) (by rintro ins _ ⟨_, _, _, rfl, _⟩; rfl) (by rw [rToldS1]; exact vToldS1 _ _)
theorem hToldS2 : cToldS2.Holds objs Try.prog := runCtr_holds (X := { cx Try.prog ctsKO with hints := hsToldS2 }) objsOk mixed hctsKO (callable _ Try.func41 (by kernel_rfl) (by kernel_rfl)) (by rintro ins _ ⟨_, _, _, rfl, _⟩; rfl) (by rw [rToldS2]; exact vToldS2 _ _)
theorem hToldS3 : cToldS3.Holds objs Try.prog := runCtr_holds (X := { cx Try.prog ctsKO with hints := hsToldS3 }) objsOk mixed hctsKO (callable _ Try.func41 (by kernel_rfl) (by kernel_rfl)) (by rintro ins _ ⟨_, _, _, rfl, _⟩; rfl) (by rw [rToldS3]; exact vToldS3 _ _)
end Go.Proofs.Ytdabdbbgaekmdaa
