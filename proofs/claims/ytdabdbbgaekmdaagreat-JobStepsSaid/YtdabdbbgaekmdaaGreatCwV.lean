/- The contracts with loops hold. -/
import Derived.Test.YtdabdbbgaekmdaaGreatCwT
namespace Go.Proofs.YtdabdbbgaekmdaaGreat
set_option linter.unusedVariables false
set_option linter.unusedSimpArgs false
set_option linter.unusedSectionVars false
open Go

theorem wrap_small {n : Int} (h1 : -(2:Int) ^ 62 ≤ n) (h2 : n < 2 ^ 62) : IntKind.i64.wrap n = n := by
  rw [IntKind.wrap_i64]; omega
theorem cmpDen_eql (x y : Int) : cmpDen .eql x y = decide (x = y) := by unfold cmpDen; exact Bool.beq_eq_decide_eq x y
theorem fill_step {l : List Int} {k n : Nat} (h1 : k < n) (h2 : n ≤ l.length) : (l.take k ++ List.replicate (n - k) 0).set k (l[k]?.getD 0) = l.take (k + 1) ++ List.replicate (n - (k + 1)) 0 := by
  rw [List.set_append_right _ _ (by simp; omega)]
  have e : n - k = (n - (k + 1)) + 1 := by omega
  have e2 : k - (l.take k).length = 0 := by simp; omega
  rw [e, List.replicate_succ, e2, List.set_cons_zero, List.getElem?_eq_getElem (by omega), List.take_add_one, List.append_assoc]
  simp [List.getElem?_eq_getElem (show k < l.length by omega)]
set_option maxHeartbeats 1000000 in
theorem vWords (P : Program) : ∀ ins, ins.length = cWords.nin → cWords.pre ins → tWords.sat (cxW P) (ctrR cWords) ins := by
  rintro ins _ ⟨M, rfl⟩
  simp only [Tree.sat, Bx.den, Ex.den, Bnd.den, gI, gB, gL, gF, gN, gNil, List.map_cons, List.map_nil, List.cons_append, List.nil_append, List.getElem?_cons_zero, List.getElem?_cons_succ, List.getD, Option.getD_some, cmp_eql_t, cmp_eql_f, cmp_neq_t, cmp_neq_f, cmp_lss_t, cmp_lss_f, cmp_leq_t, cmp_leq_f, cmp_gtr_t, cmp_gtr_f, cmp_geq_t, cmp_geq_f, Bool.not_eq_true', Bool.not_eq_false', Bool.and_eq_true, Bool.and_eq_false_iff, binDen, ctrR, Ctr.may, List.take_succ_cons, List.take_zero, Option.some.injEq, EV.u.injEq, tWords, cxW, cx, objs]
  refine ⟨?_, nomore_mem⟩
  rintro ps hl ⟨l, s, k, a, o, n, h, N, rfl, h1, h2, h3⟩ he
  injection he with he; subst he
  simp only [Tree.sat, Bx.den, Ex.den, Bnd.den, gI, gB, gL, gF, gN, gNil, List.map_cons, List.map_nil, List.cons_append, List.nil_append, List.getElem?_cons_zero, List.getElem?_cons_succ, List.getD, Option.getD_some, cmp_eql_t, cmp_eql_f, cmp_neq_t, cmp_neq_f, cmp_lss_t, cmp_lss_f, cmp_leq_t, cmp_leq_f, cmp_gtr_t, cmp_gtr_f, cmp_geq_t, cmp_geq_f, Bool.not_eq_true', Bool.not_eq_false', Bool.and_eq_true, Bool.and_eq_false_iff, binDen, ctrR, Ctr.may, List.take_succ_cons, List.take_zero, Option.some.injEq, EV.u.injEq, memT, memObj, cWords, lWords]
  repeat (refine ⟨by omega, ?_⟩)
  refine ⟨⟨0, _, rfl, by omega, by omega, by simp⟩, ?_⟩
  rintro fr hfr ⟨k', xs, hk, h4, h5, h6⟩
  simp only [List.drop_succ_cons, List.drop_zero] at hk
  subst hk
  have hxl : (xs.length : Int) = s := by rw [h6]; simp; omega
  simp only [Tree.sat, Bx.den, Ex.den, Bnd.den, gI, gB, gL, gF, gN, gNil, List.map_cons, List.map_nil, List.cons_append, List.nil_append, List.getElem?_cons_zero, List.getElem?_cons_succ, List.getD, Option.getD_some, cmp_eql_t, cmp_eql_f, cmp_neq_t, cmp_neq_f, cmp_lss_t, cmp_lss_f, cmp_leq_t, cmp_leq_f, cmp_gtr_t, cmp_gtr_f, cmp_geq_t, cmp_geq_f, Bool.not_eq_true', Bool.not_eq_false', Bool.and_eq_true, Bool.and_eq_false_iff, binDen, ctrR, Ctr.may, List.take_succ_cons, List.take_zero, Option.some.injEq, EV.u.injEq, memT, memObj, cWords, lWords]
  refine ⟨fun g => ?_, fun g => ⟨memOk_mk h1 h2 h3, ?_⟩⟩
  · repeat (refine ⟨by omega, ?_⟩)
    refine ⟨?_, ?_⟩
    · rw [wrap_small (by omega) (by omega)]
      refine ⟨k' + 1, _, rfl, by omega, by omega, ?_⟩
      rw [h6, show (s - k').toNat = s.toNat - k'.toNat by omega, fill_step (by omega) (by omega)]
      congr 2 <;> omega
    · rw [wrap_small (by omega) (by omega)]
      omega
  · obtain rfl : k' = s := by omega
    simp [h6]
    omega
theorem take_eq_step {xs ys : List Int} {k : Nat} (h : xs.take k = ys.take k) (h1 : k < xs.length) (h2 : k < ys.length) : xs.take (k + 1) = ys.take (k + 1) ↔ xs[k]?.getD 0 = ys[k]?.getD 0 := by
  rw [List.take_succ_eq_append_getElem h1, List.take_succ_eq_append_getElem h2, h, List.getElem?_eq_getElem h1, List.getElem?_eq_getElem h2, List.append_right_inj]
  simp
set_option maxHeartbeats 1000000 in
theorem vSameWords (P : Program) : ∀ ins, ins.length = cSameWords.nin → cSameWords.pre ins → tSameWords.sat (cxW P) (ctrR cSameWords) ins := by
  rintro ins _ ⟨xs, ys, a, b, c, d, rfl, p1, p2, p3, p4, h1⟩
  simp only [Tree.sat, Bx.den, Ex.den, Bnd.den, gI, gB, gL, gF, gN, gNil, List.map_cons, List.map_nil, List.cons_append, List.nil_append, List.getElem?_cons_zero, List.getElem?_cons_succ, List.getD, Option.getD_some, cmp_eql_t, cmp_eql_f, cmp_neq_t, cmp_neq_f, cmp_lss_t, cmp_lss_f, cmp_leq_t, cmp_leq_f, cmp_gtr_t, cmp_gtr_f, cmp_geq_t, cmp_geq_f, Bool.not_eq_true', Bool.not_eq_false', Bool.and_eq_true, Bool.and_eq_false_iff, binDen, ctrR, Ctr.may, List.take_succ_cons, List.take_zero, Option.some.injEq, EV.u.injEq, tSameWords, cxW, cx, objs, lSameWords, cSameWords, cmpDen_eql]
  refine ⟨by omega, by omega, ⟨0, _, rfl, by omega, by omega, ?_, ?_⟩, ?_⟩
  · simp
  · simp
    intro h e
    have := congrArg List.length e
    simp only [List.length_take] at this
    omega
  rintro fr hfr ⟨k, b', hk, h4, h5, h6, h7⟩
  simp only [List.drop_succ_cons, List.drop_zero] at hk
  subst hk
  simp only [Tree.sat, Bx.den, Ex.den, Bnd.den, gI, gB, gL, gF, gN, gNil, List.map_cons, List.map_nil, List.cons_append, List.nil_append, List.getElem?_cons_zero, List.getElem?_cons_succ, List.getD, Option.getD_some, cmp_eql_t, cmp_eql_f, cmp_neq_t, cmp_neq_f, cmp_lss_t, cmp_lss_f, cmp_leq_t, cmp_leq_f, cmp_gtr_t, cmp_gtr_f, cmp_geq_t, cmp_geq_f, Bool.not_eq_true', Bool.not_eq_false', Bool.and_eq_true, Bool.and_eq_false_iff, binDen, ctrR, Ctr.may, List.take_succ_cons, List.take_zero, Option.some.injEq, EV.u.injEq, lSameWords, cSameWords, cmpDen_eql]
  refine ⟨fun hb => ?_, fun hb => ?_⟩
  · obtain ⟨h8, h9⟩ := h6 hb
    refine ⟨by omega, fun g => ?_, fun g => ?_⟩
    · repeat (refine ⟨by omega, ?_⟩)
      refine ⟨?_, ?_⟩
      · rw [wrap_small (by omega) (by omega)]
        have hs := take_eq_step h9 (by omega) (by omega)
        refine ⟨k + 1, _, rfl, by omega, by omega, fun e => ⟨h8, ?_⟩, fun e h => ?_⟩
        · rw [show (k + 1).toNat = k.toNat + 1 by omega, hs]; simpa using e
        · have h10 := congrArg (List.take (k.toNat + 1)) h
          rw [List.take_take, List.take_take, Nat.min_eq_left (by omega), Nat.min_eq_left (by omega), hs] at h10
          simp at e; exact e h10
      · rw [wrap_small (by omega) (by omega), hb]
        simp only [if_pos]
        split <;> omega
    · subst hb
      have hk' : k = a := by omega
      subst hk'
      rw [← h8]
      simp [h9]
  · have h8 := h7 hb
    subst hb
    simp [h8]
set_option maxHeartbeats 1000000 in
theorem tmod_cases (x n : Int) (h : 0 < n) : -n < x.tmod n ∧ x.tmod n < n ∧ (x.tmod n < 0 → x.tmod n + n = x.emod n) ∧ (0 ≤ x.tmod n → x.tmod n = x.emod n) := by
  have h1 := Int.tmod_eq_emod (a := x) (b := n)
  have h2 := Int.emod_nonneg x (Int.ne_of_gt h)
  have h3 := Int.emod_lt_of_pos x h
  have h5 : x.emod n = x % n := rfl
  rw [h5]
  split at h1
  · exact ⟨by omega, by omega, by omega, by omega⟩
  · rename_i hc
    have h4 : x % n ≠ 0 := fun e => hc (.inr (Int.dvd_of_emod_eq_zero e))
    exact ⟨by omega, by omega, by omega, by omega⟩
set_option maxHeartbeats 1000000 in
theorem vPick (P : Program) : ∀ ins, ins.length = cPick.nin → cPick.pre ins → tPick.sat (cxW P) (ctrR cPick) ins := by
  rintro ins _ ⟨x, n, rfl, h1, h2⟩
  simp only [Tree.sat, Bx.den, Ex.den, Bnd.den, gI, gB, gL, gF, gN, gNil, List.map_cons, List.map_nil, List.cons_append, List.nil_append, List.getElem?_cons_zero, List.getElem?_cons_succ, List.getD, Option.getD_some, cmp_eql_t, cmp_eql_f, cmp_neq_t, cmp_neq_f, cmp_lss_t, cmp_lss_f, cmp_leq_t, cmp_leq_f, cmp_gtr_t, cmp_gtr_f, cmp_geq_t, cmp_geq_f, Bool.not_eq_true', Bool.not_eq_false', Bool.and_eq_true, Bool.and_eq_false_iff, binDen, ctrR, Ctr.may, List.take_succ_cons, List.take_zero, Option.some.injEq, EV.u.injEq, tPick, cxW, cx, objs, cPick]
  obtain ⟨h3, h4, h5, h6⟩ := tmod_cases x n h1
  refine ⟨fun g => by omega, fun g => ⟨by omega, fun g2 => ?_, fun g2 => ?_⟩⟩
  · rw [wrap_small (by omega) (by omega), h5 g2]
  · rw [h6 g2]

theorem hWords : cWords.Holds objs Tryz.prog := runCtr_holds (X := cxW Tryz.prog) objsOk mixed noCts (callable _ Tryz.func27 (by kernel_rfl) (by kernel_rfl)) (by rintro ins _ ⟨M, rfl⟩; rfl) (by rw [rWords]; exact vWords _)
theorem hSameWords : cSameWords.Holds objs Tryz.prog := runCtr_holds (X := cxW Tryz.prog) objsOk mixed noCts (callable _ Tryz.func26 (by kernel_rfl) (by kernel_rfl)) (by rintro ins _ ⟨xs, ys, a, b, c, d, rfl, _⟩; rfl) (by rw [rSameWords]; exact vSameWords _)
theorem hPick : cPick.Holds objs Tryz.prog := runCtr_holds (X := cxW Tryz.prog) objsOk mixed noCts (callable _ Tryz.func7 (by kernel_rfl) (by kernel_rfl)) (by rintro ins _ ⟨x, n, rfl, _⟩; rfl) (by rw [rPick]; exact vPick _)
end Go.Proofs.YtdabdbbgaekmdaaGreat
