/- Epochs: a crew: contracts hold. -/
import Derived.Test.YtjohihkbampbgaaEk
namespace Go.Proofs.Ytjohihkbampbgaa
set_option linter.unusedVariables false
set_option linter.unusedSimpArgs false
set_option linter.unusedSectionVars false
open Go Go.RowKit

section
variable {k : Tree} {env env' : List (EV U)} {X : Cx U} {R : List (EV U) → List (EV U) → Prop}
theorem mk_epinNil (hX : X.objs = objs) (he : env ++ [.u .epinNil] = env') (hk : k.sat X R env') : (Tree.ext (.mk 13 []) k).sat X R env := st_mk (T := epinNilT) (by rw [hX]; rfl) rfl rfl he hk
theorem mk_eunpNil (hX : X.objs = objs) (he : env ++ [.u .eunpNil] = env') (hk : k.sat X R env') : (Tree.ext (.mk 18 []) k).sat X R env := st_mk (T := eunpNilT) (by rw [hX]; rfl) rfl rfl he hk
theorem mk_eadvNil (hX : X.objs = objs) (he : env ++ [.u .eadvNil] = env') (hk : k.sat X R env') : (Tree.ext (.mk 23 []) k).sat X R env := st_mk (T := eadvNilT) (by rw [hX]; rfl) rfl rfl he hk
variable {M : MemSt} {ci : Nat} {β : List Bnd} {a b n : Int}
theorem st_epinned (hc : X.cts[ci]? = some cEPinned) (ha : β.map (Bnd.den env) = [.u (.mem M), .i a, .i b, .i n])
    (hk : ∀ (c : List Int) (env' : List (EV U)), env ++ [.u (.mem M), .l (pinnedL M b (manyE n) ++ c), .i (manyE n), .i ((manyE n + c.length : Nat) : Int)] = env' → k.sat X R env') : (Tree.callm ci β k).sat X R env :=
  st_callm hc ha ⟨_, _, _, _, rfl⟩ (fun o env' ho he => by obtain ⟨c, rfl⟩ := ho; exact hk c env' he)
end
theorem co3_none : coA .none = .epinNil ∧ coC .none = .eunpNil ∧ coE .none = .eadvNil := ⟨rfl, rfl, rfl⟩
theorem co3_pin (P : EPinSt) : coA (.pin P) = .epin P ∧ coC (.pin P) = .eunpNil ∧ coE (.pin P) = .eadvNil := ⟨rfl, rfl, rfl⟩
theorem co3_unp (P : EUnpSt) : coA (.unp P) = .epinNil ∧ coC (.unp P) = .eunp P ∧ coE (.unp P) = .eadvNil := ⟨rfl, rfl, rfl⟩
theorem co3_adv (P : EAdvSt) : coA (.adv P) = .epinNil ∧ coC (.adv P) = .eunpNil ∧ coE (.adv P) = .eadv P := ⟨rfl, rfl, rfl⟩
theorem quo_small {x : Int} : IntKind.i64.wrap ((x.emod 300).tdiv 3) = (x.emod 300).tdiv 3 := by
  have h1 : 0 ≤ x.emod 300 := Int.emod_nonneg x (by decide)
  have h2 : x.emod 300 < 300 := Int.emod_lt_of_pos x (by decide)
  have h3 : (x.emod 300).tdiv 3 = x.emod 300 / 3 := Int.tdiv_eq_ediv_of_nonneg h1
  rw [h3]
  exact wrap_small (by omega) (by omega)
theorem out_epstep (P : EPinSt) (M : MemSt) : cEPinStep.out [.u (.epin P), .u (.mem M)] = [.u (.epin (stepEP P M).1), .u (.mem (stepEP P M).2), .b ((stepEP P M).1.line == -1)] := rfl
theorem out_epat (P : EPinSt) : cEPinAt.out [.u (.epin P)] = [.u (.epin P), .i (atEP P).1, .i (atEP P).2] := rfl
theorem out_eustep (P : EUnpSt) (M : MemSt) : cEUnpStep.out [.u (.eunp P), .u (.mem M)] = [.u (.eunp (stepEU P M).1), .u (.mem (stepEU P M).2), .b true] := rfl
theorem out_euerr (P : EUnpSt) : cEUnpErr.out [.u (.eunp P)] = [.u (.eunp P), .i (errEU P)] := rfl
theorem out_eastep (P : EAdvSt) (M : MemSt) : cEAdvStep.out [.u (.eadv P), .u (.mem M)] = [.u (.eadv (stepEA P M).1), .u (.mem (stepEA P M).2), .b ((stepEA P M).1.line == -1)] := rfl
theorem out_eaerr (P : EAdvSt) : cEAdvErr.out [.u (.eadv P)] = [.u (.eadv P), .i (errEA P)] := rfl
theorem out_enewpin (a b n c : Int) : cENewPin.out [.i a, .i b, .i n, .i c] = [.u (.epin (newEP a b n c))] := rfl
theorem out_enewunp (a b n c : Int) : cENewUnp.out [.i a, .i b, .i n, .i c] = [.u (.eunp (newEU b n c))] := rfl
theorem out_enewadv (a b n c p : Int) : cENewAdv.out [.i a, .i b, .i n, .i c, .i p] = [.u (.eadv (newEA a b n c p))] := rfl
theorem out_enow (M : MemSt) (a b n : Int) : cENow.out [.u (.mem M), .i a, .i b, .i n] = [.u (.mem M), .i (u32 (M.at0 a))] := rfl
theorem out_efill (M : MemSt) (a b n : Int) : cEFill.out [.u (.mem M), .i a, .i b, .i n] = [.u (.mem (fillE M a b n))] := rfl
theorem out_within (x : EV U) (l : List (EV U)) : cWithin.out (x :: l) = [x, .b true] := rfl
theorem out_ebegun : cBegun.out [] = [.u (.mem begunM)] := rfl
theorem out_eknown : cEKnown.out [] = [.b true] := rfl
section
variable {M : MemSt} {a : Nat → Int} {o : Nat → CoreE} {n : Int} {c : Nat}
theorem now_is (I : crewInv M a o n) : u32 (M.at0 0) = M.ep := by
  have h : M.at0 0 = M.ep := by
    have := I.1
    rw [at0_in (by decide) (by omega)]; rfl
  rw [h]; exact u32_is I.2.1 (by have := I.2.2.1; have := I.2.2.2.1; omega)
theorem pre_within (I : crewInv M a o n) {y0 y1 y2 y3 y4 y5 y6 y7 y8 : EV U} : cWithin.pre [.u (.mem M), .i (a 0), .i (a 1), .i (a 2), y0, y1, y2, y3, y4, y5, y6, y7, y8] := ⟨M, a, y0, y1, y2, y3, y4, y5, y6, y7, y8, rfl, crew_within I⟩
theorem play_back (I : crewInv M a o n) {g : Nat → Nat → Int} {k : Nat} {c x3 x4 : EV U} {i : Int} (h : n ≤ i) (h1 : 0 ≤ i) (h2 : i ≤ k) (h3 : k ≤ 300) {cc : Int} (hc : c = .i cc) : playInv [.f g k, .i k, c, x3, x4, .u (.mem M), .i (a 0), .i (a 1), .i (a 2), .u (coA (o 0)), .u (coA (o 1)), .u (coA (o 2)), .u (coC (o 0)), .u (coC (o 1)), .u (coC (o 2)), .u (coE (o 0)), .u (coE (o 1)), .u (coE (o 2)), .i i] := by
  subst hc
  exact ⟨g, k, cc, x3, x4, M, a, o, i, rfl, h1, h2, h3, crew_mono I h (by omega)⟩
theorem ok_pin {P : EPinSt} (I : crewInv M a o n) (hc : c < 3) (ho : o c = .pin P) : P.ok := by
  have h := I.2.2.2.2 c hc
  rw [ho] at h
  have := I.2.2.1; have := I.2.2.2.1
  obtain ⟨_, _, _, h4, h⟩ := h
  rcases h with h | h | h
  · exact ⟨.inl ⟨.inl h.1, h4⟩, by omega, by omega⟩
  · exact ⟨.inl ⟨.inr (.inl h.1), h4⟩, by omega, by omega⟩
  · exact ⟨.inl ⟨.inr (.inr h.1), h4⟩, by omega, by omega⟩
theorem ok_unp {P : EUnpSt} (I : crewInv M a o n) (hc : c < 3) (ho : o c = .unp P) : P.ok := by
  have h := I.2.2.2.2 c hc
  rw [ho] at h
  obtain ⟨_, rfl⟩ := h
  exact .inl ⟨rfl, rfl⟩
theorem ok_adv {P : EAdvSt} (I : crewInv M a o n) (hc : c < 3) (ho : o c = .adv P) : P.ok := by
  have h := I.2.2.2.2 c hc
  rw [ho] at h
  have := I.2.2.1; have := I.2.2.2.1
  obtain ⟨h0, hp, hE, h4, h5, h6, h7, h8, h9, h10⟩ := h
  have hu : P.w = a c → u32 P.w = P.p := fun h => by rw [h, h8, u32_is h0 (by omega)]
  refine ⟨?_, ?_, fun _ => ⟨h9, by omega, by omega, by omega⟩⟩
  · rcases h10 with h | h | h
    · exact .inl h
    · exact .inr (.inl ⟨.inl h.1, hu h.2.1⟩)
    · exact .inr (.inl ⟨.inr h.1, hu h.2.1⟩)
  · intro h1
    rcases h10 with h | h | h <;> omega
end
theorem ok_stepEP' {P : EPinSt} {M : MemSt} (h : P.ok) : (stepEP P M).1.ok := by
  have g0 := u32_lo (M.load P.at_).n
  have g1 := u32_hi (M.load P.at_).n
  unfold stepEP
  split
  · rename_i e
    exact ⟨.inl ⟨.inr (.inl rfl), by rcases h.1 with h | h; exact h.2; exact absurd h.1 (by omega)⟩, g0, g1⟩
  · split
    · exact ⟨.inl ⟨.inr (.inr rfl), by rcases h.1 with h | h; exact h.2; exact absurd h.1 (by omega)⟩, h.2⟩
    · split
      · split
        · exact ⟨.inr ⟨rfl, .inl rfl⟩, h.2⟩
        · exact ⟨.inl ⟨.inr (.inl rfl), by rcases h.1 with h | h; exact h.2; exact absurd h.1 (by omega)⟩, g0, g1⟩
      · exact h
theorem ok_stepEU' {P : EUnpSt} {M : MemSt} (h : P.ok) : (stepEU P M).1.ok := by
  unfold stepEU
  split
  · exact .inr rfl
  · exact h
theorem ok_ended {P : EAdvSt} (h : P.line = -1) : P.ok := ⟨.inr (.inr h), fun e => absurd (h.symm.trans e) (by decide), fun e => absurd h e⟩
set_option maxHeartbeats 4000000 in
theorem vWithin (P : Program) (hs : List (Nat × Nat × List Nat)) : ∀ ins, ins.length = cWithin.nin → cWithin.pre ins → tWithin.sat { cx P ctsEJ with hints := hs } (ctrR cWithin) ins := by
  rintro ins _ ⟨M, a, y0, y1, y2, y3, y4, y5, y6, y7, y8, rfl, hl, hE0, hE1, h⟩
  have hm : manyE 3 = 3 := rfl
  have hm3 : ((manyE 3 : Nat) : Int) = 3 := rfl
  have hnow : u32 (M.at0 0) = M.ep := by
    have h : M.at0 0 = M.ep := by rw [at0_in (by decide) (by omega)]; rfl
    rw [h]; exact u32_is hE0 hE1
  have q : ∀ (j : Nat) (cc : List Int), j < 3 → (pinnedL M 1 (manyE 3) ++ cc)[j]?.getD 0 = pinAt M 1 j := fun j cc hj => by
    rw [List.getElem?_append_left (by rw [pinned_len, hm]; exact hj), pinnedL, List.getElem?_map, List.getElem?_range (by rw [hm]; exact hj)]; rfl
  have q0 : ∀ cc : List Int, (pinnedL M 1 (manyE 3) ++ cc)[(0 : Int).toNat]?.getD 0 = pinAt M 1 0 := fun cc => q 0 cc (by decide)
  have q1 : ∀ cc : List Int, (pinnedL M 1 (manyE 3) ++ cc)[(1 : Int).toNat]?.getD 0 = pinAt M 1 1 := fun cc => q 1 cc (by decide)
  have q2 : ∀ cc : List Int, (pinnedL M 1 (manyE 3) ++ cc)[(2 : Int).toNat]?.getD 0 = pinAt M 1 2 := fun cc => q 2 cc (by decide)
  have pa : ∀ c : Nat, c < 3 → 0 ≤ a c → pinAt M 1 c = a c ∧ IntKind.i64.wrap (a c + 1) = a c + 1 ∧ (M.ep = a c ∨ M.ep = a c + 1) := fun c hc h0 => by
    obtain ⟨h1, h2⟩ := h c hc h0
    have e : M.at0 (IntKind.i64.wrap (1 + c)) = M.pn c := by
      have h5 := at0_in (M := M) (x := 1 + (c : Int)) (by omega) (by omega)
      rw [wrap_s (n := 1 + (c : Int)) (by omega) (by omega), h5, MemSt.pn, show (1 + (c : Int)).toNat = 1 + c by omega]
    refine ⟨?_, wrap_small (by omega) (by omega), h2⟩
    unfold pinAt
    simp only [e, h1]
    rw [if_neg (by omega), show a c + 1 - 1 = a c by omega, wrap_u64' h0 (by omega), u32_is h0 (by omega)]
  have b0 : 0 ≤ a 0 → pinAt M 1 0 = a 0 ∧ IntKind.i64.wrap (a 0 + 1) = a 0 + 1 ∧ (M.ep = a 0 ∨ M.ep = a 0 + 1) := pa 0 (by decide)
  have b1 : 0 ≤ a 1 → pinAt M 1 1 = a 1 ∧ IntKind.i64.wrap (a 1 + 1) = a 1 + 1 ∧ (M.ep = a 1 ∨ M.ep = a 1 + 1) := pa 1 (by decide)
  have b2 : 0 ≤ a 2 → pinAt M 1 2 = a 2 ∧ IntKind.i64.wrap (a 2 + 1) = a 2 + 1 ∧ (M.ep = a 2 ∨ M.ep = a 2 + 1) := pa 2 (by decide)
  clear pa q
  unfold tWithin
  repeat' (first
    | (first
      | (with_reducible refine st_need ?_ ?_
         focus (simp only [Bx.den, Ex.den, Bnd.den, gI, gB, gL, gF, gN, gNil, List.map_cons, List.map_nil, List.cons_append, List.nil_append, List.getElem?_cons_zero, List.getElem?_cons_succ, List.getD, Option.getD_some, cmp_eql_t, cmp_eql_f, cmp_neq_t, cmp_neq_f, cmp_lss_t, cmp_lss_f, cmp_leq_t, cmp_leq_f, cmp_gtr_t, cmp_gtr_f, cmp_geq_t, cmp_geq_f, Bool.not_eq_true', Bool.not_eq_false', Bool.and_eq_true, Bool.and_eq_false_iff, binDen, Option.some.injEq, EV.u.injEq, Nil.isNil, beq_self_eq_true, and_self, true_and, and_true, or_false, false_or, or_self, not_true_eq_false, not_false_eq_true, ne_eq, Bool.true_eq_false, Bool.false_eq_true, reduceCtorEq, hnow, q0, q1, q2, hm3, List.length_append, pinned_len] <;> first | omega | assumption))
      | (with_reducible refine st_and ?_ ?_)
      | (with_reducible exact st_ok)
      | (with_reducible refine st_br (fun hc => ?_) (fun hc => ?_) <;> (simp only [Bx.den, Ex.den, Bnd.den, gI, gB, gL, gF, gN, gNil, List.map_cons, List.map_nil, List.cons_append, List.nil_append, List.getElem?_cons_zero, List.getElem?_cons_succ, List.getD, Option.getD_some, cmp_eql_t, cmp_eql_f, cmp_neq_t, cmp_neq_f, cmp_lss_t, cmp_lss_f, cmp_leq_t, cmp_leq_f, cmp_gtr_t, cmp_gtr_f, cmp_geq_t, cmp_geq_f, Bool.not_eq_true', Bool.not_eq_false', Bool.and_eq_true, Bool.and_eq_false_iff, binDen, Option.some.injEq, EV.u.injEq, Nil.isNil, beq_self_eq_true, and_self, true_and, and_true, or_false, false_or, or_self, not_true_eq_false, not_false_eq_true, ne_eq, Bool.true_eq_false, Bool.false_eq_true, reduceCtorEq, hnow, q0, q1, q2, hm3, List.length_append, pinned_len] at hc) <;> (try (exfalso; first | contradiction | omega)))
      | (refine st_call (by rfl) (by simp only [Bx.den, Ex.den, Bnd.den, gI, gB, gL, gF, gN, gNil, List.map_cons, List.map_nil, List.cons_append, List.nil_append, List.getElem?_cons_zero, List.getElem?_cons_succ, List.getD, Option.getD_some, cmp_eql_t, cmp_eql_f, cmp_neq_t, cmp_neq_f, cmp_lss_t, cmp_lss_f, cmp_leq_t, cmp_leq_f, cmp_gtr_t, cmp_gtr_f, cmp_geq_t, cmp_geq_f, Bool.not_eq_true', Bool.not_eq_false', Bool.and_eq_true, Bool.and_eq_false_iff, binDen, Option.some.injEq, EV.u.injEq, Nil.isNil, beq_self_eq_true, and_self, true_and, and_true, or_false, false_or, or_self, not_true_eq_false, not_false_eq_true, ne_eq, Bool.true_eq_false, Bool.false_eq_true, reduceCtorEq, hnow, q0, q1, q2, hm3, List.length_append, pinned_len] <;> rfl) ?_ (by simp only [out_enow] <;> rfl) (by simp only [List.cons_append, List.nil_append] <;> rfl) ?_
         focus (first | exact ⟨_, _, _, _, rfl⟩))
      | (with_reducible refine st_ret (by simp only [Bx.den, Ex.den, Bnd.den, gI, gB, gL, gF, gN, gNil, List.map_cons, List.map_nil, List.cons_append, List.nil_append, List.getElem?_cons_zero, List.getElem?_cons_succ, List.getD, Option.getD_some, cmp_eql_t, cmp_eql_f, cmp_neq_t, cmp_neq_f, cmp_lss_t, cmp_lss_f, cmp_leq_t, cmp_leq_f, cmp_gtr_t, cmp_gtr_f, cmp_geq_t, cmp_geq_f, Bool.not_eq_true', Bool.not_eq_false', Bool.and_eq_true, Bool.and_eq_false_iff, binDen, Option.some.injEq, EV.u.injEq, Nil.isNil, beq_self_eq_true, and_self, true_and, and_true, or_false, false_or, or_self, not_true_eq_false, not_false_eq_true, ne_eq, Bool.true_eq_false, Bool.false_eq_true, reduceCtorEq, hnow, q0, q1, q2, hm3, List.length_append, pinned_len] <;> rfl) ?_
         (first | rfl | exact ⟨_, rfl⟩)))
    | (refine st_epinned (by rfl) (by simp only [Bx.den, Ex.den, Bnd.den, gI, gB, gL, gF, gN, gNil, List.map_cons, List.map_nil, List.cons_append, List.nil_append, List.getElem?_cons_zero, List.getElem?_cons_succ, List.getD, Option.getD_some, cmp_eql_t, cmp_eql_f, cmp_neq_t, cmp_neq_f, cmp_lss_t, cmp_lss_f, cmp_leq_t, cmp_leq_f, cmp_gtr_t, cmp_gtr_f, cmp_geq_t, cmp_geq_f, Bool.not_eq_true', Bool.not_eq_false', Bool.and_eq_true, Bool.and_eq_false_iff, binDen, Option.some.injEq, EV.u.injEq, Nil.isNil, beq_self_eq_true, and_self, true_and, and_true, or_false, false_or, or_self, not_true_eq_false, not_false_eq_true, ne_eq, Bool.true_eq_false, Bool.false_eq_true, reduceCtorEq, hnow] <;> rfl) (fun cc env' he => ?_)
       simp only [List.cons_append, List.nil_append] at he
       subst he)
    | fail "no step")
theorem hWithin : cWithin.Holds objs Try.prog := runCtr_holds (X := { cx Try.prog ctsEJ with hints := hsWithin }) objsOk mixed hctsEJ (callable _ Try.func100 (by kernel_rfl) (by kernel_rfl)) (by rintro ins _ ⟨_, _, _, _, _, _, _, _, _, _, _, rfl, _⟩; rfl) (by rw [rWithin]; exact vWithin _ _)
theorem hctsEB : ∀ (ci : Nat) (c : Ctr U), ctsEB[ci]? = some c → c.Holds objs Try.prog := ctsApp hctsM (by intro ci c h; match ci, h with | 0, h => cases h; exact hEFill | n + 1, h => cases h)
set_option maxHeartbeats 4000000 in
theorem vBegun (P : Program) (hs : List (Nat × Nat × List Nat)) : ∀ ins, ins.length = cBegun.nin → cBegun.pre ins → tBegun.sat { cx P ctsEB with hints := hs } (ctrR cBegun) ins := by
  rintro ins _ rfl
  have e1 := out_new (n := 4) (by decide) (by decide)
  unfold tBegun
  repeat' (first
    | (first
      | (with_reducible refine st_need ?_ ?_
         focus (simp only [Bx.den, Ex.den, Bnd.den, gI, gB, gL, gF, gN, gNil, List.map_cons, List.map_nil, List.cons_append, List.nil_append, List.getElem?_cons_zero, List.getElem?_cons_succ, List.getD, Option.getD_some, cmp_eql_t, cmp_eql_f, cmp_neq_t, cmp_neq_f, cmp_lss_t, cmp_lss_f, cmp_leq_t, cmp_leq_f, cmp_gtr_t, cmp_gtr_f, cmp_geq_t, cmp_geq_f, Bool.not_eq_true', Bool.not_eq_false', Bool.and_eq_true, Bool.and_eq_false_iff, binDen, Option.some.injEq, EV.u.injEq, Nil.isNil, beq_self_eq_true, and_self, true_and, and_true, or_false, false_or, or_self, not_true_eq_false, not_false_eq_true, ne_eq, Bool.true_eq_false, Bool.false_eq_true, reduceCtorEq, e1] <;> first | omega | assumption))
      | (with_reducible refine st_and ?_ ?_)
      | (with_reducible exact st_ok)
      | (with_reducible refine st_br (fun hc => ?_) (fun hc => ?_) <;> (simp only [Bx.den, Ex.den, Bnd.den, gI, gB, gL, gF, gN, gNil, List.map_cons, List.map_nil, List.cons_append, List.nil_append, List.getElem?_cons_zero, List.getElem?_cons_succ, List.getD, Option.getD_some, cmp_eql_t, cmp_eql_f, cmp_neq_t, cmp_neq_f, cmp_lss_t, cmp_lss_f, cmp_leq_t, cmp_leq_f, cmp_gtr_t, cmp_gtr_f, cmp_geq_t, cmp_geq_f, Bool.not_eq_true', Bool.not_eq_false', Bool.and_eq_true, Bool.and_eq_false_iff, binDen, Option.some.injEq, EV.u.injEq, Nil.isNil, beq_self_eq_true, and_self, true_and, and_true, or_false, false_or, or_self, not_true_eq_false, not_false_eq_true, ne_eq, Bool.true_eq_false, Bool.false_eq_true, reduceCtorEq, e1] at hc) <;> (try (exfalso; first | contradiction | omega)))
      | (refine st_call (by rfl) (by simp only [Bx.den, Ex.den, Bnd.den, gI, gB, gL, gF, gN, gNil, List.map_cons, List.map_nil, List.cons_append, List.nil_append, List.getElem?_cons_zero, List.getElem?_cons_succ, List.getD, Option.getD_some, cmp_eql_t, cmp_eql_f, cmp_neq_t, cmp_neq_f, cmp_lss_t, cmp_lss_f, cmp_leq_t, cmp_leq_f, cmp_gtr_t, cmp_gtr_f, cmp_geq_t, cmp_geq_f, Bool.not_eq_true', Bool.not_eq_false', Bool.and_eq_true, Bool.and_eq_false_iff, binDen, Option.some.injEq, EV.u.injEq, Nil.isNil, beq_self_eq_true, and_self, true_and, and_true, or_false, false_or, or_self, not_true_eq_false, not_false_eq_true, ne_eq, Bool.true_eq_false, Bool.false_eq_true, reduceCtorEq, e1] <;> rfl) ?_ (by simp only [e1, out_efill] <;> rfl) (by simp only [List.cons_append, List.nil_append] <;> rfl) ?_
         focus (first | exact ⟨_, rfl⟩ | exact ⟨_, _, _, _, rfl⟩))
      | (with_reducible refine st_ret (by simp only [Bx.den, Ex.den, Bnd.den, gI, gB, gL, gF, gN, gNil, List.map_cons, List.map_nil, List.cons_append, List.nil_append, List.getElem?_cons_zero, List.getElem?_cons_succ, List.getD, Option.getD_some, cmp_eql_t, cmp_eql_f, cmp_neq_t, cmp_neq_f, cmp_lss_t, cmp_lss_f, cmp_leq_t, cmp_leq_f, cmp_gtr_t, cmp_gtr_f, cmp_geq_t, cmp_geq_f, Bool.not_eq_true', Bool.not_eq_false', Bool.and_eq_true, Bool.and_eq_false_iff, binDen, Option.some.injEq, EV.u.injEq, Nil.isNil, beq_self_eq_true, and_self, true_and, and_true, or_false, false_or, or_self, not_true_eq_false, not_false_eq_true, ne_eq, Bool.true_eq_false, Bool.false_eq_true, reduceCtorEq, e1] <;> rfl) ?_
         (first | rfl | exact ⟨_, rfl⟩)))
    | fail "no step")
theorem hBegun : cBegun.Holds objs Try.prog := runCtr_holds (X := { cx Try.prog ctsEB with hints := hsBegun }) objsOk mixed hctsEB (callable _ Try.func59 (by kernel_rfl) (by kernel_rfl)) (by rintro ins _ rfl; rfl) (by rw [rBegun]; exact vBegun _ _)
end Go.Proofs.Ytjohihkbampbgaa
