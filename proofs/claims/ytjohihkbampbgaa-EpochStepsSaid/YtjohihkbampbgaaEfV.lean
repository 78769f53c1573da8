/- Epochs: lists of numbers; what a core is within, told side by side: the contracts hold. -/
import Derived.Test.YtjohihkbampbgaaEfT
namespace Go.Proofs.Ytjohihkbampbgaa
set_option linter.unusedVariables false
set_option linter.unusedSimpArgs false
set_option linter.unusedSectionVars false
open Go Go.RowKit

/-! ### what stays as it may be -/
theorem fine_new {n : Int} (h : n ≤ 4096) : (MemSt.new n).fine := by
  refine ⟨by show (List.replicate n.toNat (0 : Int)).length ≤ 4096; rw [List.length_replicate]; omega, fun x hx => ?_⟩
  have : x = 0 := List.eq_of_mem_replicate hx
  subst this; exact ⟨by decide, by decide⟩
theorem fine_stepEP {P : EPinSt} {M : MemSt} (hP : P.ok) (h : M.fine) : (stepEP P M).2.fine := by
  unfold stepEP
  split
  · exact fine_load h _
  · split
    · exact fine_store h ⟨by have := hP.2.1; omega, by have := hP.2.2; omega⟩
    · split
      · split <;> exact fine_load h _
      · exact h
theorem fine_stepEU {P : EUnpSt} {M : MemSt} (h : M.fine) : (stepEU P M).2.fine := by
  unfold stepEU
  split
  · exact fine_store h ⟨by decide, by decide⟩
  · exact h
theorem fine_stepEA {P : EAdvSt} {M : MemSt} (hP : P.ok) (h : M.fine) : (stepEA P M).2.fine := by
  unfold stepEA
  split
  · exact fine_load h _
  · split
    · exact fine_load h _
    · split
      · rename_i h0 h1 h2
        have := u32_lo P.w
        have := u32_hi P.w
        have hw : u32 P.w = P.p := by
          rcases hP.1 with g | g | g
          · exact absurd g.1 h0
          · exact g.2
          · omega
        exact fine_cas h ⟨by omega, by omega⟩
      · exact h
theorem ok_stepEP {P : EPinSt} {M : MemSt} (h : P.ok) : (stepEP P M).1.ok := by
  have g0 := u32_lo (M.load P.at_).n
  have g1 := u32_hi (M.load P.at_).n
  unfold stepEP
  split
  · rename_i e
    exact ⟨.inl ⟨.inr (.inl rfl), by rcases h.1 with h | h; exact h.2; exact absurd h.1 (by omega)⟩, g0, g1⟩
  · split
    · exact ⟨.inl ⟨.inr (.inr rfl), by rcases h.1 with h | h; exact h.2; exact absurd h.1 (by omega)⟩, h.2⟩
    · split
      · split
        · exact ⟨.inr ⟨rfl, .inl rfl⟩, h.2⟩
        · exact ⟨.inl ⟨.inr (.inl rfl), by rcases h.1 with h | h; exact h.2; exact absurd h.1 (by omega)⟩, g0, g1⟩
      · exact h
theorem ok_stepEU {P : EUnpSt} {M : MemSt} (h : P.ok) : (stepEU P M).1.ok := by
  unfold stepEU
  split
  · exact .inr rfl
  · exact h
theorem ok_turnA {P : EAdvSt} {w f : Int} (hw : u32 w = P.p) (h : P.err = 0 ∧ 0 ≤ P.c ∧ P.c < P.cores ∧ P.cores ≤ 64) (hf : 0 ≤ f) : (turnA P w f).ok := by
  have : 0 ≤ turnTo f P.c := by unfold turnTo; split <;> omega
  unfold turnA
  split
  · exact ⟨.inr (.inl ⟨.inl rfl, hw⟩), fun _ => ⟨by assumption, by assumption⟩, fun _ => h⟩
  · exact ⟨.inr (.inl ⟨.inr rfl, hw⟩), fun e => absurd e (by show (2:Int) ≠ 1; decide), fun _ => h⟩
theorem ok_endA {P : EAdvSt} {w e : Int} : (endA P w e).ok := ⟨.inr (.inr rfl), fun e => absurd e (by show (-1:Int) ≠ 1; decide), fun e => absurd rfl e⟩
theorem ok_stepEA {P : EAdvSt} {M : MemSt} (h : P.ok) : (stepEA P M).1.ok := by
  unfold stepEA
  split
  · dsimp only
    split
    · exact ok_endA
    · rename_i e g
      exact ok_turnA (by omega) (h.2.2 (by omega)) (by decide)
  · split
    · dsimp only
      split
      · exact ok_endA
      · rename_i e _ g
        exact ok_turnA (by rcases h.1 with k | k | k; omega; exact k.2; omega) (h.2.2 (by omega)) (by have := (h.2.1 (by assumption)).1; omega)
    · split
      · exact ok_endA
      · exact h
theorem ok_newEP {a b n c : Int} : (newEP a b n c).ok := by
  unfold newEP; split
  · exact ⟨.inr ⟨rfl, .inr rfl⟩, by show (0:Int) ≤ 0; decide, by show (0:Int) < 4294967296; decide⟩
  · exact ⟨.inl ⟨.inl rfl, rfl⟩, by show (0:Int) ≤ 0; decide, by show (0:Int) < 4294967296; decide⟩
theorem ok_newEU {b n c : Int} : (newEU b n c).ok := by
  unfold newEU; split
  · exact .inr rfl
  · exact .inl ⟨rfl, rfl⟩
theorem ok_newEA {a b n c p : Int} (h : n ≤ 64) : (newEA a b n c p).ok := by
  unfold newEA; split
  · exact ⟨.inr (.inr rfl), fun e => absurd e (by show (-1:Int) ≠ 1; decide), fun e => absurd rfl e⟩
  · exact ⟨.inl ⟨rfl, rfl⟩, fun e => absurd e (by show (0:Int) ≠ 1; decide), fun _ => ⟨rfl, by show (0:Int) ≤ c; omega, by show c < n; omega, h⟩⟩
theorem ok_may {o : CoreE} {M : MemSt} {s : Bool} (h : o.ok) : (o.may M s).1.ok := by
  unfold CoreE.may
  split
  · rcases o with _ | P | P | P
    · exact h
    · exact ok_stepEP h
    · exact ok_stepEU h
    · exact ok_stepEA h
  · exact h
theorem fine_may {o : CoreE} {M : MemSt} {s : Bool} (h : o.ok) (hM : M.fine) : (o.may M s).2.fine := by
  unfold CoreE.may
  split
  · rcases o with _ | P | P | P
    · exact hM
    · exact fine_stepEP h hM
    · exact fine_stepEU hM
    · exact fine_stepEA h hM
  · exact hM

/-! ### lists of numbers -/
set_option maxHeartbeats 1000000 in
theorem vSameInts (P : Program) (hs : List (Nat × Nat × List Nat)) : ∀ ins, ins.length = cSameInts.nin → cSameInts.pre ins → tSameInts.sat { cxEO P [lSameInts] with hints := hs } (ctrR cSameInts) ins := by
  rintro ins _ ⟨xs, ys, a, b, c, d, rfl, p1, p2, p3, p4, h1⟩
  simp only [Tree.sat, Bx.den, Ex.den, Bnd.den, gI, gB, gL, gF, gN, gNil, List.map_cons, List.map_nil, List.cons_append, List.nil_append, List.getElem?_cons_zero, List.getElem?_cons_succ, List.getD, Option.getD_some, cmp_eql_t, cmp_eql_f, cmp_neq_t, cmp_neq_f, cmp_lss_t, cmp_lss_f, cmp_leq_t, cmp_leq_f, cmp_gtr_t, cmp_gtr_f, cmp_geq_t, cmp_geq_f, Bool.not_eq_true', Bool.not_eq_false', Bool.and_eq_true, Bool.and_eq_false_iff, binDen, ctrR, Ctr.may, List.take_succ_cons, List.take_zero, Option.some.injEq, EV.u.injEq, tSameInts, tSameIntsL0, cxEO, cx, objs, lSameInts, cSameInts, cmpDen_eql]
  refine ⟨by omega, by omega, ⟨0, _, rfl, by omega, by omega, ?_, ?_⟩, ?_⟩
  · simp
  · simp
    intro h e
    have := congrArg List.length e
    simp only [List.length_take] at this
    omega
  rintro fr hfr ⟨k, b', hk, h4, h5, h6, h7⟩
  simp only [List.drop_succ_cons, List.drop_zero] at hk
  subst hk
  simp only [Tree.sat, Bx.den, Ex.den, Bnd.den, gI, gB, gL, gF, gN, gNil, List.map_cons, List.map_nil, List.cons_append, List.nil_append, List.getElem?_cons_zero, List.getElem?_cons_succ, List.getD, Option.getD_some, cmp_eql_t, cmp_eql_f, cmp_neq_t, cmp_neq_f, cmp_lss_t, cmp_lss_f, cmp_leq_t, cmp_leq_f, cmp_gtr_t, cmp_gtr_f, cmp_geq_t, cmp_geq_f, Bool.not_eq_true', Bool.not_eq_false', Bool.and_eq_true, Bool.and_eq_false_iff, binDen, ctrR, Ctr.may, List.take_succ_cons, List.take_zero, Option.some.injEq, EV.u.injEq, lSameInts, cSameInts, cmpDen_eql]
  refine ⟨fun hb => ?_, fun hb => ?_⟩
  · obtain ⟨h8, h9⟩ := h6 hb
    refine ⟨by omega, fun g => ?_, fun g => ?_⟩
    · repeat (refine ⟨by omega, ?_⟩)
      refine ⟨?_, ?_⟩
      · rw [wrap_small (by omega) (by omega)]
        have hs := take_eq_step h9 (by omega) (by omega)
        refine ⟨k + 1, _, rfl, by omega, by omega, fun e => ⟨h8, ?_⟩, fun e h => ?_⟩
        · rw [show (k + 1).toNat = k.toNat + 1 by omega, hs]; simpa using e
        · have h10 := congrArg (List.take (k.toNat + 1)) h
          rw [List.take_take, List.take_take, Nat.min_eq_left (by omega), Nat.min_eq_left (by omega), hs] at h10
          simp at e; exact e h10
      · rw [wrap_small (by omega) (by omega), hb]
        simp only [if_pos]
        split <;> omega
    · subst hb
      have hk' : k = a := by omega
      subst hk'
      rw [← h8]
      simp [h9]
  · have h8 := h7 hb
    subst hb
    simp [h8]
theorem over_step {xs : List Int} {i : Nat} (h : i < xs.length) : (List.replicate i (-77 : Int) ++ xs.drop i).set i (-77) = List.replicate (i + 1) (-77) ++ xs.drop (i + 1) := by
  rw [List.set_append_right _ _ (by simp), List.length_replicate, Nat.sub_self, List.drop_eq_getElem_cons h, List.set_cons_zero, List.replicate_succ', List.append_assoc]; rfl
theorem over_end {xs : List Int} {n : Nat} : (List.replicate n (-77 : Int) ++ xs.drop n).length = n + (xs.length - n) := by simp
set_option maxHeartbeats 1000000 in
theorem vOverInts (P : Program) (hs : List (Nat × Nat × List Nat)) : ∀ ins, ins.length = cOverInts.nin → cOverInts.pre ins → tOverInts.sat { cxEO P [lOverInts] with hints := hs } (ctrR cOverInts) ins := by
  have hb : ∀ env, overInv env → tOverIntsL0.sat { cxEO P [lOverInts] with hints := hs } (ctrR cOverInts) env := by
    rintro env ⟨xs, a, c, i, rfl, h1, h2, h3, h4⟩
    have hl : (List.replicate i.toNat (-77 : Int) ++ xs.drop i.toNat).length = xs.length := by rw [over_end]; omega
    have hst : ∀ h : i < a, (List.replicate i.toNat (-77 : Int) ++ xs.drop i.toNat).set i.toNat (-77) = List.replicate (i + 1).toNat (-77) ++ xs.drop (i + 1).toNat := fun h => by
      rw [over_step (by omega), show (i + 1).toNat = i.toNat + 1 by omega]
    simp only [Tree.sat, Bx.den, Ex.den, Bnd.den, gI, gB, gL, gF, gN, gNil, List.map_cons, List.map_nil, List.cons_append, List.nil_append, List.getElem?_cons_zero, List.getElem?_cons_succ, List.getD, Option.getD_some, cmp_eql_t, cmp_eql_f, cmp_neq_t, cmp_neq_f, cmp_lss_t, cmp_lss_f, cmp_leq_t, cmp_leq_f, cmp_gtr_t, cmp_gtr_f, cmp_geq_t, cmp_geq_f, Bool.not_eq_true', Bool.not_eq_false', Bool.and_eq_true, Bool.and_eq_false_iff, binDen, ctrR, Ctr.may, List.take_succ_cons, List.take_zero, Option.some.injEq, EV.u.injEq, tOverIntsL0, cxEO, lOverInts, cx, cOverInts, hl, true_and, and_true, ne_eq, not_true_eq_false, not_false_eq_true, false_implies, true_implies, implies_true, List.append_assoc]
    repeat' (first | with_reducible apply And.intro | intro _)
    all_goals first
      | omega
      | (rw [wrap_small (n := i + 1) (by omega) (by omega), hst (by omega)]; exact ⟨xs, a, c, i + 1, rfl, by omega, by omega, h3, h4⟩)
      | (rw [wrap_small (n := i + 1) (by omega) (by omega)]; show (a - (i + 1)).toNat < (a - i).toNat; omega)
      | (have : i = a := by omega
         subst this; rfl)
  rintro ins _ ⟨xs, a, c, rfl, p1, p2, p3⟩
  simp only [Tree.sat, Bx.den, Ex.den, Bnd.den, gI, gB, gL, gF, gN, gNil, List.map_cons, List.map_nil, List.cons_append, List.nil_append, List.getElem?_cons_zero, List.getElem?_cons_succ, List.getD, Option.getD_some, cmp_eql_t, cmp_eql_f, cmp_neq_t, cmp_neq_f, cmp_lss_t, cmp_lss_f, cmp_leq_t, cmp_leq_f, cmp_gtr_t, cmp_gtr_f, cmp_geq_t, cmp_geq_f, Bool.not_eq_true', Bool.not_eq_false', Bool.and_eq_true, Bool.and_eq_false_iff, binDen, ctrR, Ctr.may, List.take_succ_cons, List.take_zero, Option.some.injEq, EV.u.injEq, tOverInts, cxEO, lOverInts, cx, cOverInts, true_and, and_true, ne_eq, not_true_eq_false, not_false_eq_true, false_implies, true_implies, implies_true, List.append_assoc]
  repeat' (first | with_reducible apply And.intro | intro _)
  all_goals first
    | omega
    | exact hb _ (by assumption)
    | exact ⟨xs, a, c, 0, rfl, by omega, by omega, by omega, by omega⟩
theorem hSameInts : cSameInts.Holds objs Try.prog := runCtr_holds (X := { cxEO Try.prog [lSameInts] with hints := hsSameInts }) objsOk mixed noCts (callable _ Try.func31 (by kernel_rfl) (by kernel_rfl)) (by rintro ins _ ⟨xs, ys, a, b, c, d, rfl, _⟩; rfl) (by rw [rSameInts]; exact vSameInts _ _)
theorem hOverInts : cOverInts.Holds objs Try.prog := runCtr_holds (X := { cxEO Try.prog [lOverInts] with hints := hsOverInts }) objsOk mixed noCts (callable _ Try.func76 (by kernel_rfl) (by kernel_rfl)) (by rintro ins _ ⟨xs, a, c, rfl, _⟩; rfl) (by rw [rOverInts]; exact vOverInts _ _)

/-! ### what a core is within, told side by side -/
theorem out_epstep (P : EPinSt) (M : MemSt) : cEPinStep.out [.u (.epin P), .u (.mem M)] = [.u (.epin (stepEP P M).1), .u (.mem (stepEP P M).2), .b ((stepEP P M).1.line == -1)] := rfl
theorem out_qpstep (P : EPinSt) (M : MemSt) : cQPinStep.out [.u (.repin P), .u (.rmem M)] = [.u (.repin (stepEP P M).1), .u (.rmem (stepEP P M).2), .b ((stepEP P M).1.line == -1)] := rfl
theorem out_epat (P : EPinSt) : cEPinAt.out [.u (.epin P)] = [.u (.epin P), .i (atEP P).1, .i (atEP P).2] := rfl
theorem out_qpat (P : EPinSt) : cQPinAt.out [.u (.repin P)] = [.u (.repin P), .i (atEP P).1, .i (atEP P).2] := rfl
theorem out_eustep (P : EUnpSt) (M : MemSt) : cEUnpStep.out [.u (.eunp P), .u (.mem M)] = [.u (.eunp (stepEU P M).1), .u (.mem (stepEU P M).2), .b true] := rfl
theorem out_qustep (P : EUnpSt) (M : MemSt) : cQUnpStep.out [.u (.reunp P), .u (.rmem M)] = [.u (.reunp (stepEU P M).1), .u (.rmem (stepEU P M).2), .b true] := rfl
theorem out_euerr (P : EUnpSt) : cEUnpErr.out [.u (.eunp P)] = [.u (.eunp P), .i (errEU P)] := rfl
theorem out_querr (P : EUnpSt) : cQUnpErr.out [.u (.reunp P)] = [.u (.reunp P), .i (errEU P)] := rfl
theorem out_eastep (P : EAdvSt) (M : MemSt) : cEAdvStep.out [.u (.eadv P), .u (.mem M)] = [.u (.eadv (stepEA P M).1), .u (.mem (stepEA P M).2), .b ((stepEA P M).1.line == -1)] := rfl
theorem out_qastep (P : EAdvSt) (M : MemSt) : cQAdvStep.out [.u (.readv P), .u (.rmem M)] = [.u (.readv (stepEA P M).1), .u (.rmem (stepEA P M).2), .b ((stepEA P M).1.line == -1)] := rfl
theorem out_eaerr (P : EAdvSt) : cEAdvErr.out [.u (.eadv P)] = [.u (.eadv P), .i (errEA P)] := rfl
theorem out_qaerr (P : EAdvSt) : cQAdvErr.out [.u (.readv P)] = [.u (.readv P), .i (errEA P)] := rfl
theorem cmp_self (x : Int) : cmpDen .eql x x = true := by simp [cmpDen]
theorem co_none : coA .none = .epinNil ∧ coB .none = .repinNil ∧ coC .none = .eunpNil ∧ coD .none = .reunpNil ∧ coE .none = .eadvNil ∧ coF .none = .readvNil := ⟨rfl, rfl, rfl, rfl, rfl, rfl⟩
theorem co_pin (P : EPinSt) : coA (.pin P) = .epin P ∧ coB (.pin P) = .repin P ∧ coC (.pin P) = .eunpNil ∧ coD (.pin P) = .reunpNil ∧ coE (.pin P) = .eadvNil ∧ coF (.pin P) = .readvNil := ⟨rfl, rfl, rfl, rfl, rfl, rfl⟩
theorem co_unp (P : EUnpSt) : coA (.unp P) = .epinNil ∧ coB (.unp P) = .repinNil ∧ coC (.unp P) = .eunp P ∧ coD (.unp P) = .reunp P ∧ coE (.unp P) = .eadvNil ∧ coF (.unp P) = .readvNil := ⟨rfl, rfl, rfl, rfl, rfl, rfl⟩
theorem co_adv (P : EAdvSt) : coA (.adv P) = .epinNil ∧ coB (.adv P) = .repinNil ∧ coC (.adv P) = .eunpNil ∧ coD (.adv P) = .reunpNil ∧ coE (.adv P) = .eadv P ∧ coF (.adv P) = .readv P := ⟨rfl, rfl, rfl, rfl, rfl, rfl⟩
set_option maxHeartbeats 4000000 in
theorem vTold (P : Program) (hs : List (Nat × Nat × List Nat)) : ∀ ins, ins.length = cTold.nin → cTold.pre ins → tTold.sat { cx P ctsEO with hints := hs } (ctrR cTold) ins := by
  rintro ins _ ⟨o, M, s, rfl, h, hM⟩
  rcases o with _ | p | p | p <;> cases s
  all_goals
    simp only [co_none, co_pin, co_unp, co_adv]
    unfold tTold
    repeat' (first
      | (first
        | (with_reducible refine st_need ?_ ?_
           focus (simp only [Bx.den, Ex.den, Bnd.den, gI, gB, gL, gF, gN, gNil, List.map_cons, List.map_nil, List.cons_append, List.nil_append, List.getElem?_cons_zero, List.getElem?_cons_succ, List.getD, Option.getD_some, cmp_eql_t, cmp_eql_f, cmp_neq_t, cmp_neq_f, cmp_lss_t, cmp_lss_f, cmp_leq_t, cmp_leq_f, cmp_gtr_t, cmp_gtr_f, cmp_geq_t, cmp_geq_f, Bool.not_eq_true', Bool.not_eq_false', Bool.and_eq_true, Bool.and_eq_false_iff, binDen, Option.some.injEq, EV.u.injEq, Nil.isNil, beq_self_eq_true, and_self, true_and, and_true, or_false, false_or, or_self, not_true_eq_false, not_false_eq_true, ne_eq, Bool.true_eq_false, Bool.false_eq_true, reduceCtorEq, h, cmp_self] <;> first | omega | assumption))
        | (with_reducible refine st_and ?_ ?_)
        | (with_reducible exact st_ok)
        | (with_reducible refine st_br (fun hc => ?_) (fun hc => ?_) <;> (simp only [Bx.den, Ex.den, Bnd.den, gI, gB, gL, gF, gN, gNil, List.map_cons, List.map_nil, List.cons_append, List.nil_append, List.getElem?_cons_zero, List.getElem?_cons_succ, List.getD, Option.getD_some, cmp_eql_t, cmp_eql_f, cmp_neq_t, cmp_neq_f, cmp_lss_t, cmp_lss_f, cmp_leq_t, cmp_leq_f, cmp_gtr_t, cmp_gtr_f, cmp_geq_t, cmp_geq_f, Bool.not_eq_true', Bool.not_eq_false', Bool.and_eq_true, Bool.and_eq_false_iff, binDen, Option.some.injEq, EV.u.injEq, Nil.isNil, beq_self_eq_true, and_self, true_and, and_true, or_false, false_or, or_self, not_true_eq_false, not_false_eq_true, ne_eq, Bool.true_eq_false, Bool.false_eq_true, reduceCtorEq, h, cmp_self] at hc) <;> (try (exfalso; first | contradiction | omega)))
        | (refine st_call (by rfl) (by simp only [Bx.den, Ex.den, Bnd.den, gI, gB, gL, gF, gN, gNil, List.map_cons, List.map_nil, List.cons_append, List.nil_append, List.getElem?_cons_zero, List.getElem?_cons_succ, List.getD, Option.getD_some, cmp_eql_t, cmp_eql_f, cmp_neq_t, cmp_neq_f, cmp_lss_t, cmp_lss_f, cmp_leq_t, cmp_leq_f, cmp_gtr_t, cmp_gtr_f, cmp_geq_t, cmp_geq_f, Bool.not_eq_true', Bool.not_eq_false', Bool.and_eq_true, Bool.and_eq_false_iff, binDen, Option.some.injEq, EV.u.injEq, Nil.isNil, beq_self_eq_true, and_self, true_and, and_true, or_false, false_or, or_self, not_true_eq_false, not_false_eq_true, ne_eq, Bool.true_eq_false, Bool.false_eq_true, reduceCtorEq, h, cmp_self] <;> rfl) ?_ (by simp only [out_epstep, out_qpstep, out_epat, out_qpat, out_eustep, out_qustep, out_euerr, out_querr, out_eastep, out_qastep, out_eaerr, out_qaerr] <;> rfl) (by simp only [List.cons_append, List.nil_append] <;> rfl) ?_
           focus (first | exact ⟨_, _, rfl, h⟩ | exact ⟨_, _, rfl, h, hM⟩ | exact ⟨_, rfl, ok_stepEP h⟩ | exact ⟨_, rfl, ok_stepEU h⟩ | exact ⟨_, rfl, ok_stepEA h⟩ | exact ⟨_, rfl, h⟩))
        | (with_reducible refine st_ret (by simp only [Bx.den, Ex.den, Bnd.den, gI, gB, gL, gF, gN, gNil, List.map_cons, List.map_nil, List.cons_append, List.nil_append, List.getElem?_cons_zero, List.getElem?_cons_succ, List.getD, Option.getD_some, cmp_eql_t, cmp_eql_f, cmp_neq_t, cmp_neq_f, cmp_lss_t, cmp_lss_f, cmp_leq_t, cmp_leq_f, cmp_gtr_t, cmp_gtr_f, cmp_geq_t, cmp_geq_f, Bool.not_eq_true', Bool.not_eq_false', Bool.and_eq_true, Bool.and_eq_false_iff, binDen, Option.some.injEq, EV.u.injEq, Nil.isNil, beq_self_eq_true, and_self, true_and, and_true, or_false, false_or, or_self, not_true_eq_false, not_false_eq_true, ne_eq, Bool.true_eq_false, Bool.false_eq_true, reduceCtorEq, h, cmp_self] <;> rfl) ?_
           (first | rfl | exact ⟨_, rfl⟩)))
      | fail "no step")
set_option maxHeartbeats 4000000 in
theorem vTold1 (P : Program) (hs : List (Nat × Nat × List Nat)) : ∀ ins, ins.length = cTold1.nin → cTold1.pre ins → tTold1.sat { cx P ctsEO with hints := hs } (ctrR cTold1) ins := by
  rintro ins _ ⟨p, M, s, rfl, rfl, h, hM⟩
  unfold tTold1
  repeat' (first
    | (first
      | (with_reducible refine st_need ?_ ?_
         focus (simp only [Bx.den, Ex.den, Bnd.den, gI, gB, gL, gF, gN, gNil, List.map_cons, List.map_nil, List.cons_append, List.nil_append, List.getElem?_cons_zero, List.getElem?_cons_succ, List.getD, Option.getD_some, cmp_eql_t, cmp_eql_f, cmp_neq_t, cmp_neq_f, cmp_lss_t, cmp_lss_f, cmp_leq_t, cmp_leq_f, cmp_gtr_t, cmp_gtr_f, cmp_geq_t, cmp_geq_f, Bool.not_eq_true', Bool.not_eq_false', Bool.and_eq_true, Bool.and_eq_false_iff, binDen, Option.some.injEq, EV.u.injEq, Nil.isNil, beq_self_eq_true, and_self, true_and, and_true, or_false, false_or, or_self, not_true_eq_false, not_false_eq_true, ne_eq, Bool.true_eq_false, Bool.false_eq_true, reduceCtorEq, h, cmp_self] <;> first | omega | assumption))
      | (with_reducible refine st_and ?_ ?_)
      | (with_reducible exact st_ok)
      | (with_reducible refine st_br (fun hc => ?_) (fun hc => ?_) <;> (simp only [Bx.den, Ex.den, Bnd.den, gI, gB, gL, gF, gN, gNil, List.map_cons, List.map_nil, List.cons_append, List.nil_append, List.getElem?_cons_zero, List.getElem?_cons_succ, List.getD, Option.getD_some, cmp_eql_t, cmp_eql_f, cmp_neq_t, cmp_neq_f, cmp_lss_t, cmp_lss_f, cmp_leq_t, cmp_leq_f, cmp_gtr_t, cmp_gtr_f, cmp_geq_t, cmp_geq_f, Bool.not_eq_true', Bool.not_eq_false', Bool.and_eq_true, Bool.and_eq_false_iff, binDen, Option.some.injEq, EV.u.injEq, Nil.isNil, beq_self_eq_true, and_self, true_and, and_true, or_false, false_or, or_self, not_true_eq_false, not_false_eq_true, ne_eq, Bool.true_eq_false, Bool.false_eq_true, reduceCtorEq, h, cmp_self] at hc) <;> (try (exfalso; first | contradiction | omega)))
      | (refine st_call (by rfl) (by simp only [Bx.den, Ex.den, Bnd.den, gI, gB, gL, gF, gN, gNil, List.map_cons, List.map_nil, List.cons_append, List.nil_append, List.getElem?_cons_zero, List.getElem?_cons_succ, List.getD, Option.getD_some, cmp_eql_t, cmp_eql_f, cmp_neq_t, cmp_neq_f, cmp_lss_t, cmp_lss_f, cmp_leq_t, cmp_leq_f, cmp_gtr_t, cmp_gtr_f, cmp_geq_t, cmp_geq_f, Bool.not_eq_true', Bool.not_eq_false', Bool.and_eq_true, Bool.and_eq_false_iff, binDen, Option.some.injEq, EV.u.injEq, Nil.isNil, beq_self_eq_true, and_self, true_and, and_true, or_false, false_or, or_self, not_true_eq_false, not_false_eq_true, ne_eq, Bool.true_eq_false, Bool.false_eq_true, reduceCtorEq, h, cmp_self] <;> rfl) ?_ (by simp only [out_epstep, out_qpstep, out_epat, out_qpat, out_eustep, out_qustep, out_euerr, out_querr, out_eastep, out_qastep, out_eaerr, out_qaerr] <;> rfl) (by simp only [List.cons_append, List.nil_append] <;> rfl) ?_
         focus (first | exact ⟨_, _, rfl, h⟩ | exact ⟨_, _, rfl, h, hM⟩ | exact ⟨_, rfl, ok_stepEP h⟩ | exact ⟨_, rfl, ok_stepEU h⟩ | exact ⟨_, rfl, ok_stepEA h⟩ | exact ⟨_, rfl, h⟩))
      | (with_reducible refine st_ret (by simp only [Bx.den, Ex.den, Bnd.den, gI, gB, gL, gF, gN, gNil, List.map_cons, List.map_nil, List.cons_append, List.nil_append, List.getElem?_cons_zero, List.getElem?_cons_succ, List.getD, Option.getD_some, cmp_eql_t, cmp_eql_f, cmp_neq_t, cmp_neq_f, cmp_lss_t, cmp_lss_f, cmp_leq_t, cmp_leq_f, cmp_gtr_t, cmp_gtr_f, cmp_geq_t, cmp_geq_f, Bool.not_eq_true', Bool.not_eq_false', Bool.and_eq_true, Bool.and_eq_false_iff, binDen, Option.some.injEq, EV.u.injEq, Nil.isNil, beq_self_eq_true, and_self, true_and, and_true, or_false, false_or, or_self, not_true_eq_false, not_false_eq_true, ne_eq, Bool.true_eq_false, Bool.false_eq_true, reduceCtorEq, h, cmp_self] <;> rfl) ?_
         (first | rfl | exact ⟨_, rfl⟩)))
    | fail "no step")
set_option maxHeartbeats 4000000 in
theorem vTold2 (P : Program) (hs : List (Nat × Nat × List Nat)) : ∀ ins, ins.length = cTold2.nin → cTold2.pre ins → tTold2.sat { cx P ctsEO with hints := hs } (ctrR cTold2) ins := by
  rintro ins _ ⟨p, M, s, rfl, rfl, h, hM⟩
  unfold tTold2
  repeat' (first
    | (first
      | (with_reducible refine st_need ?_ ?_
         focus (simp only [Bx.den, Ex.den, Bnd.den, gI, gB, gL, gF, gN, gNil, List.map_cons, List.map_nil, List.cons_append, List.nil_append, List.getElem?_cons_zero, List.getElem?_cons_succ, List.getD, Option.getD_some, cmp_eql_t, cmp_eql_f, cmp_neq_t, cmp_neq_f, cmp_lss_t, cmp_lss_f, cmp_leq_t, cmp_leq_f, cmp_gtr_t, cmp_gtr_f, cmp_geq_t, cmp_geq_f, Bool.not_eq_true', Bool.not_eq_false', Bool.and_eq_true, Bool.and_eq_false_iff, binDen, Option.some.injEq, EV.u.injEq, Nil.isNil, beq_self_eq_true, and_self, true_and, and_true, or_false, false_or, or_self, not_true_eq_false, not_false_eq_true, ne_eq, Bool.true_eq_false, Bool.false_eq_true, reduceCtorEq, h, cmp_self] <;> first | omega | assumption))
      | (with_reducible refine st_and ?_ ?_)
      | (with_reducible exact st_ok)
      | (with_reducible refine st_br (fun hc => ?_) (fun hc => ?_) <;> (simp only [Bx.den, Ex.den, Bnd.den, gI, gB, gL, gF, gN, gNil, List.map_cons, List.map_nil, List.cons_append, List.nil_append, List.getElem?_cons_zero, List.getElem?_cons_succ, List.getD, Option.getD_some, cmp_eql_t, cmp_eql_f, cmp_neq_t, cmp_neq_f, cmp_lss_t, cmp_lss_f, cmp_leq_t, cmp_leq_f, cmp_gtr_t, cmp_gtr_f, cmp_geq_t, cmp_geq_f, Bool.not_eq_true', Bool.not_eq_false', Bool.and_eq_true, Bool.and_eq_false_iff, binDen, Option.some.injEq, EV.u.injEq, Nil.isNil, beq_self_eq_true, and_self, true_and, and_true, or_false, false_or, or_self, not_true_eq_false, not_false_eq_true, ne_eq, Bool.true_eq_false, Bool.false_eq_true, reduceCtorEq, h, cmp_self] at hc) <;> (try (exfalso; first | contradiction | omega)))
      | (refine st_call (by rfl) (by simp only [Bx.den, Ex.den, Bnd.den, gI, gB, gL, gF, gN, gNil, List.map_cons, List.map_nil, List.cons_append, List.nil_append, List.getElem?_cons_zero, List.getElem?_cons_succ, List.getD, Option.getD_some, cmp_eql_t, cmp_eql_f, cmp_neq_t, cmp_neq_f, cmp_lss_t, cmp_lss_f, cmp_leq_t, cmp_leq_f, cmp_gtr_t, cmp_gtr_f, cmp_geq_t, cmp_geq_f, Bool.not_eq_true', Bool.not_eq_false', Bool.and_eq_true, Bool.and_eq_false_iff, binDen, Option.some.injEq, EV.u.injEq, Nil.isNil, beq_self_eq_true, and_self, true_and, and_true, or_false, false_or, or_self, not_true_eq_false, not_false_eq_true, ne_eq, Bool.true_eq_false, Bool.false_eq_true, reduceCtorEq, h, cmp_self] <;> rfl) ?_ (by simp only [out_epstep, out_qpstep, out_epat, out_qpat, out_eustep, out_qustep, out_euerr, out_querr, out_eastep, out_qastep, out_eaerr, out_qaerr] <;> rfl) (by simp only [List.cons_append, List.nil_append] <;> rfl) ?_
         focus (first | exact ⟨_, _, rfl, h⟩ | exact ⟨_, _, rfl, h, hM⟩ | exact ⟨_, rfl, ok_stepEP h⟩ | exact ⟨_, rfl, ok_stepEU h⟩ | exact ⟨_, rfl, ok_stepEA h⟩ | exact ⟨_, rfl, h⟩))
      | (with_reducible refine st_ret (by simp only [Bx.den, Ex.den, Bnd.den, gI, gB, gL, gF, gN, gNil, List.map_cons, List.map_nil, List.cons_append, List.nil_append, List.getElem?_cons_zero, List.getElem?_cons_succ, List.getD, Option.getD_some, cmp_eql_t, cmp_eql_f, cmp_neq_t, cmp_neq_f, cmp_lss_t, cmp_lss_f, cmp_leq_t, cmp_leq_f, cmp_gtr_t, cmp_gtr_f, cmp_geq_t, cmp_geq_f, Bool.not_eq_true', Bool.not_eq_false', Bool.and_eq_true, Bool.and_eq_false_iff, binDen, Option.some.injEq, EV.u.injEq, Nil.isNil, beq_self_eq_true, and_self, true_and, and_true, or_false, false_or, or_self, not_true_eq_false, not_false_eq_true, ne_eq, Bool.true_eq_false, Bool.false_eq_true, reduceCtorEq, h, cmp_self] <;> rfl) ?_
         (first | rfl | exact ⟨_, rfl⟩)))
    | fail "no step")
set_option maxHeartbeats 4000000 in
theorem vTold3 (P : Program) (hs : List (Nat × Nat × List Nat)) : ∀ ins, ins.length = cTold3.nin → cTold3.pre ins → tTold3.sat { cx P ctsEO with hints := hs } (ctrR cTold3) ins := by
  rintro ins _ ⟨p, M, s, rfl, rfl, h, hM⟩
  unfold tTold3
  repeat' (first
    | (first
      | (with_reducible refine st_need ?_ ?_
         focus (simp only [Bx.den, Ex.den, Bnd.den, gI, gB, gL, gF, gN, gNil, List.map_cons, List.map_nil, List.cons_append, List.nil_append, List.getElem?_cons_zero, List.getElem?_cons_succ, List.getD, Option.getD_some, cmp_eql_t, cmp_eql_f, cmp_neq_t, cmp_neq_f, cmp_lss_t, cmp_lss_f, cmp_leq_t, cmp_leq_f, cmp_gtr_t, cmp_gtr_f, cmp_geq_t, cmp_geq_f, Bool.not_eq_true', Bool.not_eq_false', Bool.and_eq_true, Bool.and_eq_false_iff, binDen, Option.some.injEq, EV.u.injEq, Nil.isNil, beq_self_eq_true, and_self, true_and, and_true, or_false, false_or, or_self, not_true_eq_false, not_false_eq_true, ne_eq, Bool.true_eq_false, Bool.false_eq_true, reduceCtorEq, h, cmp_self] <;> first | omega | assumption))
      | (with_reducible refine st_and ?_ ?_)
      | (with_reducible exact st_ok)
      | (with_reducible refine st_br (fun hc => ?_) (fun hc => ?_) <;> (simp only [Bx.den, Ex.den, Bnd.den, gI, gB, gL, gF, gN, gNil, List.map_cons, List.map_nil, List.cons_append, List.nil_append, List.getElem?_cons_zero, List.getElem?_cons_succ, List.getD, Option.getD_some, cmp_eql_t, cmp_eql_f, cmp_neq_t, cmp_neq_f, cmp_lss_t, cmp_lss_f, cmp_leq_t, cmp_leq_f, cmp_gtr_t, cmp_gtr_f, cmp_geq_t, cmp_geq_f, Bool.not_eq_true', Bool.not_eq_false', Bool.and_eq_true, Bool.and_eq_false_iff, binDen, Option.some.injEq, EV.u.injEq, Nil.isNil, beq_self_eq_true, and_self, true_and, and_true, or_false, false_or, or_self, not_true_eq_false, not_false_eq_true, ne_eq, Bool.true_eq_false, Bool.false_eq_true, reduceCtorEq, h, cmp_self] at hc) <;> (try (exfalso; first | contradiction | omega)))
      | (refine st_call (by rfl) (by simp only [Bx.den, Ex.den, Bnd.den, gI, gB, gL, gF, gN, gNil, List.map_cons, List.map_nil, List.cons_append, List.nil_append, List.getElem?_cons_zero, List.getElem?_cons_succ, List.getD, Option.getD_some, cmp_eql_t, cmp_eql_f, cmp_neq_t, cmp_neq_f, cmp_lss_t, cmp_lss_f, cmp_leq_t, cmp_leq_f, cmp_gtr_t, cmp_gtr_f, cmp_geq_t, cmp_geq_f, Bool.not_eq_true', Bool.not_eq_false', Bool.and_eq_true, Bool.and_eq_false_iff, binDen, Option.some.injEq, EV.u.injEq, Nil.isNil, beq_self_eq_true, and_self, true_and, and_true, or_false, false_or, or_self, not_true_eq_false, not_false_eq_true, ne_eq, Bool.true_eq_false, Bool.false_eq_true, reduceCtorEq, h, cmp_self] <;> rfl) ?_ (by simp only [out_epstep, out_qpstep, out_epat, out_qpat, out_eustep, out_qustep, out_euerr, out_querr, out_eastep, out_qastep, out_eaerr, out_qaerr] <;> rfl) (by simp only [List.cons_append, List.nil_append] <;> rfl) ?_
         focus (first | exact ⟨_, _, rfl, h⟩ | exact ⟨_, _, rfl, h, hM⟩ | exact ⟨_, rfl, ok_stepEP h⟩ | exact ⟨_, rfl, ok_stepEU h⟩ | exact ⟨_, rfl, ok_stepEA h⟩ | exact ⟨_, rfl, h⟩))
      | (with_reducible refine st_ret (by simp only [Bx.den, Ex.den, Bnd.den, gI, gB, gL, gF, gN, gNil, List.map_cons, List.map_nil, List.cons_append, List.nil_append, List.getElem?_cons_zero, List.getElem?_cons_succ, List.getD, Option.getD_some, cmp_eql_t, cmp_eql_f, cmp_neq_t, cmp_neq_f, cmp_lss_t, cmp_lss_f, cmp_leq_t, cmp_leq_f, cmp_gtr_t, cmp_gtr_f, cmp_geq_t, cmp_geq_f, Bool.not_eq_true', Bool.not_eq_false', Bool.and_eq_true, Bool.and_eq_false_iff, binDen, Option.some.injEq, EV.u.injEq, Nil.isNil, beq_self_eq_true, and_self, true_and, and_true, or_false, false_or, or_self, not_true_eq_false, not_false_eq_true, ne_eq, Bool.true_eq_false, Bool.false_eq_true, reduceCtorEq, h, cmp_self] <;> rfl) ?_
         (first | rfl | exact ⟨_, rfl⟩)))
    | fail "no step")
theorem hTold : cTold.Holds objs Try.prog := runCtr_holds (X := { cx Try.prog ctsEO with hints := hsTold }) objsOk mixed hctsEO (callable _ Try.func73 (by kernel_rfl) (by kernel_rfl)) (by rintro ins _ ⟨o, _, _, rfl, _⟩; cases o <;> rfl) (by rw [rTold]; exact vTold _ _)
theorem hTold1 : cTold1.Holds objs Try.prog := runCtr_holds (X := { cx Try.prog ctsEO with hints := hsTold1 }) objsOk mixed hctsEO (callable _ Try.func73 (by kernel_rfl) (by kernel_rfl)) (by rintro ins _ ⟨_, _, _, rfl, _⟩; rfl) (by rw [rTold1]; exact vTold1 _ _)
theorem hTold2 : cTold2.Holds objs Try.prog := runCtr_holds (X := { cx Try.prog ctsEO with hints := hsTold2 }) objsOk mixed hctsEO (callable _ Try.func73 (by kernel_rfl) (by kernel_rfl)) (by rintro ins _ ⟨_, _, _, rfl, _⟩; rfl) (by rw [rTold2]; exact vTold2 _ _)
theorem hTold3 : cTold3.Holds objs Try.prog := runCtr_holds (X := { cx Try.prog ctsEO with hints := hsTold3 }) objsOk mixed hctsEO (callable _ Try.func73 (by kernel_rfl) (by kernel_rfl)) (by rintro ins _ ⟨_, _, _, rfl, _⟩; rfl) (by rw [rTold3]; exact vTold3 _ _)
end Go.Proofs.Ytjohihkbampbgaa
