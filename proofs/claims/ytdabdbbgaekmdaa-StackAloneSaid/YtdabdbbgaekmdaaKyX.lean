/- Lists of numbers, one from its second number on: the contract holds. -/
import Derived.Test.YtdabdbbgaekmdaaKyT
import Derived.Test.YtdabdbbgaekmdaaKiV
namespace Go.Proofs.Ytdabdbbgaekmdaa
set_option linter.unusedVariables false
set_option linter.unusedSimpArgs false
set_option linter.unusedSectionVars false
open Go Go.RowKit

set_option maxHeartbeats 1000000 in
theorem vSameIntsX (P : Program) (hs : List (Nat × Nat × List Nat)) : ∀ ins, ins.length = cSameIntsX.nin → cSameIntsX.pre ins → tSameIntsX.sat { cxSX P with hints := hs } (ctrR cSameIntsX) ins := by
  rintro ins _ ⟨xs, ys, a, b, c, d, rfl, p1, p2, p3, p4, p5, h1⟩
  have hdt : (xs.take a.toNat).drop 1 = (xs.drop 1).take (a - 1).toNat := by rw [List.drop_take, show a.toNat - 1 = (a - 1).toNat by omega]
  have hg : ∀ k : Int, 0 ≤ k → xs[(k + 1).toNat]?.getD 0 = (xs.drop 1)[k.toNat]?.getD 0 := fun k h => by rw [List.getElem?_drop, show 1 + k.toNat = (k + 1).toNat by omega]
  have hsl : (xs.drop 1).length = xs.length - 1 := List.length_drop
  have hw : IntKind.i64.wrap (a - 1) = a - 1 := wrap_small (by omega) (by omega)
  generalize hz : xs.drop 1 = zs at hdt hg hsl
  simp only [Tree.sat, Bx.den, Ex.den, Bnd.den, gI, gB, gL, gF, gN, gNil, List.map_cons, List.map_nil, List.cons_append, List.nil_append, List.getElem?_cons_zero, List.getElem?_cons_succ, List.getD, Option.getD_some, cmp_eql_t, cmp_eql_f, cmp_neq_t, cmp_neq_f, cmp_lss_t, cmp_lss_f, cmp_leq_t, cmp_leq_f, cmp_gtr_t, cmp_gtr_f, cmp_geq_t, cmp_geq_f, Bool.not_eq_true', Bool.not_eq_false', Bool.and_eq_true, Bool.and_eq_false_iff, binDen, ctrR, Ctr.may, List.take_succ_cons, List.take_zero, Option.some.injEq, EV.u.injEq, tSameIntsX, tSameIntsXL0, cxSX, cx, objs, lSameIntsX, cSameIntsX, cmpDen_eql, hw, hdt, hz]
  refine ⟨by omega, by omega, by omega, ⟨0, _, rfl, by omega, by omega, ?_, ?_⟩, ?_⟩
  · intro h
    simp only [decide_eq_true_eq] at h
    exact ⟨by omega, rfl⟩
  · intro h e
    simp only [decide_eq_false_iff_not] at h
    have := congrArg List.length e
    simp only [List.length_take] at this
    omega
  rintro fr hfr ⟨k, b', hk, h4, h5, h6, h7⟩
  simp only [List.drop_succ_cons, List.drop_zero] at hk
  subst hk
  have hwk : IntKind.i64.wrap (k + 1) = k + 1 := wrap_small (by omega) (by omega)
  simp only [Tree.sat, Bx.den, Ex.den, Bnd.den, gI, gB, gL, gF, gN, gNil, List.map_cons, List.map_nil, List.cons_append, List.nil_append, List.getElem?_cons_zero, List.getElem?_cons_succ, List.getD, Option.getD_some, cmp_eql_t, cmp_eql_f, cmp_neq_t, cmp_neq_f, cmp_lss_t, cmp_lss_f, cmp_leq_t, cmp_leq_f, cmp_gtr_t, cmp_gtr_f, cmp_geq_t, cmp_geq_f, Bool.not_eq_true', Bool.not_eq_false', Bool.and_eq_true, Bool.and_eq_false_iff, binDen, ctrR, Ctr.may, List.take_succ_cons, List.take_zero, Option.some.injEq, EV.u.injEq, lSameIntsX, cSameIntsX, cmpDen_eql, hw, hwk, hg k h4, hdt, hz]
  refine ⟨fun hb => ?_, fun hb => ?_⟩
  · obtain ⟨h8, h9⟩ := h6 hb
    refine ⟨by omega, by omega, fun g => ?_, fun g => ?_⟩
    · repeat (refine ⟨by omega, ?_⟩)
      refine ⟨?_, ?_⟩
      · have hs := take_eq_step h9 (by omega) (by omega)
        refine ⟨k + 1, _, rfl, by omega, by omega, fun e => ⟨h8, ?_⟩, fun e h => ?_⟩
        · rw [show (k + 1).toNat = k.toNat + 1 by omega, hs]; simpa using e
        · have h10 := congrArg (List.take (k.toNat + 1)) h
          rw [List.take_take, List.take_take, Nat.min_eq_left (by omega), Nat.min_eq_left (by omega), hs] at h10
          simp at e; exact e h10
      · rw [hb]
        simp only [if_pos]
        split <;> omega
    · subst hb
      have hk' : k = a - 1 := by omega
      subst hk'
      have hb' : b = a - 1 := by omega
      subst hb'
      simp only [h9, decide_true]
  · have h8 := h7 hb
    subst hb
    simp only [h8, decide_false]
theorem hSameIntsX : cSameIntsX.Holds objs Try.prog := runCtr_holds (X := { cxSX Try.prog with hints := hsSameIntsX }) objsOk mixed noCts (callable _ Try.func27 (by kernel_rfl) (by kernel_rfl)) (by rintro ins _ ⟨xs, ys, a, b, c, d, rfl, _⟩; rfl) (by rw [rSameIntsX]; exact vSameIntsX _ _)
end Go.Proofs.Ytdabdbbgaekmdaa
