/- Lists of numbers: the contracts hold. -/
import Derived.Test.YtbmbiiiacajolaaGreatKiT
namespace Go.Proofs.YtbmbiiiacajolaaGreat
set_option linter.unusedVariables false
set_option linter.unusedSimpArgs false
set_option linter.unusedSectionVars false
open Go Go.RowKit

set_option maxHeartbeats 1000000 in
theorem vSameInts (P : Program) (hs : List (Nat × Nat × List Nat)) : ∀ ins, ins.length = cSameInts.nin → cSameInts.pre ins → tSameInts.sat { cxEO P [lSameInts] with hints := hs } (ctrR cSameInts) ins := by
  rintro ins _ ⟨xs, ys, a, b, c, d, rfl, p1, p2, p3, p4, h1⟩
  simp only [Tree.sat, Bx.den, Ex.den, Bnd.den, gI, gB, gL, gF, gN, gNil, List.map_cons, List.map_nil, List.cons_append, List.nil_append, List.getElem?_cons_zero, List.getElem?_cons_succ, List.getD, Option.getD_some, cmp_eql_t, cmp_eql_f, cmp_neq_t, cmp_neq_f, cmp_lss_t, cmp_lss_f, cmp_leq_t, cmp_leq_f, cmp_gtr_t, cmp_gtr_f, cmp_geq_t, cmp_geq_f, Bool.not_eq_true', Bool.not_eq_false', Bool.and_eq_true, Bool.and_eq_false_iff, binDen, ctrR, Ctr.may, List.take_succ_cons, List.take_zero, Option.some.injEq, EV.u.injEq, tSameInts, tSameIntsL0, cxEO, cx, objs, lSameInts, cSameInts, cmpDen_eql]
  refine ⟨by omega, by omega, ⟨0, _, rfl, by omega, by omega, ?_, ?_⟩, ?_⟩
  · simp
  · simp
    intro h e
    have := congrArg List.length e
    simp only [List.length_take] at this
    omega
  rintro fr hfr ⟨k, b', hk, h4, h5, h6, h7⟩
  simp only [List.drop_succ_cons, List.drop_zero] at hk
  subst hk
  simp only [Tree.sat, Bx.den, Ex.den, Bnd.den, gI, gB, gL, gF, gN, gNil, List.map_cons, List.map_nil, List.cons_append, List.nil_append, List.getElem?_cons_zero, List.getElem?_cons_succ, List.getD, Option.getD_some, cmp_eql_t, cmp_eql_f, cmp_neq_t, cmp_neq_f, cmp_lss_t, cmp_lss_f, cmp_leq_t, cmp_leq_f, cmp_gtr_t, cmp_gtr_f, cmp_geq_t, cmp_geq_f, Bool.not_eq_true', Bool.not_eq_false', Bool.and_eq_true, Bool.and_eq_false_iff, binDen, ctrR, Ctr.may, List.take_succ_cons, List.take_zero, Option.some.injEq, EV.u.injEq, lSameInts, cSameInts, cmpDen_eql]
  refine ⟨fun hb => ?_, fun hb => ?_⟩
  · obtain ⟨h8, h9⟩ := h6 hb
    refine ⟨by omega, fun g => ?_, fun g => ?_⟩
    · repeat (refine ⟨by omega, ?_⟩)
      refine ⟨?_, ?_⟩
      · rw [wrap_small (by omega) (by omega)]
        have hs := take_eq_step h9 (by omega) (by omega)
        refine ⟨k + 1, _, rfl, by omega, by omega, fun e => ⟨h8, ?_⟩, fun e h => ?_⟩
        · rw [show (k + 1).toNat = k.toNat + 1 by omega, hs]; simpa using e
        · have h10 := congrArg (List.take (k.toNat + 1)) h
          rw [List.take_take, List.take_take, Nat.min_eq_left (by omega), Nat.min_eq_left (by omega), hs] at h10
          simp at e; exact e h10
      · rw [wrap_small (by omega) (by omega), hb]
        simp only [if_pos]
        split <;> omega
    · subst hb
      have hk' : k = a := by omega
      subst hk'
      rw [← h8]
      simp [h9]
  · have h8 := h7 hb
    subst hb
    simp [h8]
theorem over_step {xs : List Int} {i : Nat} (h : i < xs.length) : (List.replicate i (-77 : Int) ++ xs.drop i).set i (-77) = List.replicate (i + 1) (-77) ++ xs.drop (i + 1) := by
  rw [List.set_append_right _ _ (by simp), List.length_replicate, Nat.sub_self, List.drop_eq_getElem_cons h, List.set_cons_zero, List.replicate_succ', List.append_assoc]; rfl
theorem over_end {xs : List Int} {n : Nat} : (List.replicate n (-77 : Int) ++ xs.drop n).length = n + (xs.length - n) := by simp
set_option maxHeartbeats 1000000 in
theorem vOverInts (P : Program) (hs : List (Nat × Nat × List Nat)) : ∀ ins, ins.length = cOverInts.nin → cOverInts.pre ins → tOverInts.sat { cxEO P [lOverInts] with hints := hs } (ctrR cOverInts) ins := by
  have hb : ∀ env, overInv env → tOverIntsL0.sat { cxEO P [lOverInts] with hints := hs } (ctrR cOverInts) env := by
    rintro env ⟨xs, a, c, i, rfl, h1, h2, h3, h4⟩
    have hl : (List.replicate i.toNat (-77 : Int) ++ xs.drop i.toNat).length = xs.length := by rw [over_end]; omega
    have hst : ∀ h : i < a, (List.replicate i.toNat (-77 : Int) ++ xs.drop i.toNat).set i.toNat (-77) = List.replicate (i + 1).toNat (-77) ++ xs.drop (i + 1).toNat := fun h => by
      rw [over_step (by omega), show (i + 1).toNat = i.toNat + 1 by omega]
    simp only [Tree.sat, Bx.den, Ex.den, Bnd.den, gI, gB, gL, gF, gN, gNil, List.map_cons, List.map_nil, List.cons_append, List.nil_append, List.getElem?_cons_zero, List.getElem?_cons_succ, List.getD, Option.getD_some, cmp_eql_t, cmp_eql_f, cmp_neq_t, cmp_neq_f, cmp_lss_t, cmp_lss_f, cmp_leq_t, cmp_leq_f, cmp_gtr_t, cmp_gtr_f, cmp_geq_t, cmp_geq_f, Bool.not_eq_true', Bool.not_eq_false', Bool.and_eq_true, Bool.and_eq_false_iff, binDen, ctrR, Ctr.may, List.take_succ_cons, List.take_zero, Option.some.injEq, EV.u.injEq, tOverIntsL0, cxEO, lOverInts, cx, cOverInts, hl, true_and, and_true, ne_eq, not_true_eq_false, not_false_eq_true, false_implies, true_implies, implies_true, List.append_assoc]
    repeat' (first | with_reducible apply And.intro | intro _)
    all_goals first
      | omega
      | (rw [wrap_small (n := i + 1) (by omega) (by omega), hst (by omega)]; exact ⟨xs, a, c, i + 1, rfl, by omega, by omega, h3, h4⟩)
      | (rw [wrap_small (n := i + 1) (by omega) (by omega)]; show (a - (i + 1)).toNat < (a - i).toNat; omega)
      | (have : i = a := by omega
         subst this; rfl)
  rintro ins _ ⟨xs, a, c, rfl, p1, p2, p3⟩
  simp only [Tree.sat, Bx.den, Ex.den, Bnd.den, gI, gB, gL, gF, gN, gNil, List.map_cons, List.map_nil, List.cons_append, List.nil_append, List.getElem?_cons_zero, List.getElem?_cons_succ, List.getD, Option.getD_some, cmp_eql_t, cmp_eql_f, cmp_neq_t, cmp_neq_f, cmp_lss_t, cmp_lss_f, cmp_leq_t, cmp_leq_f, cmp_gtr_t, cmp_gtr_f, cmp_geq_t, cmp_geq_f, Bool.not_eq_true', Bool.not_eq_false', Bool.and_eq_true, Bool.and_eq_false_iff, binDen, ctrR, Ctr.may, List.take_succ_cons, List.take_zero, Option.some.injEq, EV.u.injEq, tOverInts, cxEO, lOverInts, cx, cOverInts, true_and, and_true, ne_eq, not_true_eq_false, not_false_eq_true, false_implies, true_implies, implies_true, List.append_assoc]
  repeat' (first | with_reducible apply And.intro | intro _)
  all_goals first
    | omega
    | exact hb _ (by assumption)
    | exact ⟨xs, a, c, 0, rfl, by omega, by omega, by omega, by omega⟩
theorem hSameInts : cSameInts.Holds objs Tryz.prog := runCtr_holds (X := { cxEO Tryz.prog [lSameInts] with hints := hsSameInts }) objsOk mixed noCts (callable _ Tryz.func71 (by kernel_rfl) (by kernel_rfl)) (by rintro ins _ ⟨xs, ys, a, b, c, d, rfl, _⟩; rfl) (by rw [rSameInts]; exact vSameInts _ _)
theorem hOverInts : cOverInts.Holds objs Tryz.prog := runCtr_holds (X := { cxEO Tryz.prog [lOverInts] with hints := hsOverInts }) objsOk mixed noCts (callable _ Tryz.func79 (by kernel_rfl) (by kernel_rfl)) (by rintro ins _ ⟨xs, a, c, rfl, _⟩; rfl) (by rw [rOverInts]; exact vOverInts _ _)

end Go.Proofs.YtbmbiiiacajolaaGreat
