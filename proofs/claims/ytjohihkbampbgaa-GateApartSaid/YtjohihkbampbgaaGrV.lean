/- Passes that follow each other rise: the law holds. -/
import Derived.Test.YtjohihkbampbgaaGrT
import Derived.Test.YtjohihkbampbgaaSw
namespace Go.Proofs.Ytjohihkbampbgaa
set_option linter.unusedVariables false
set_option linter.unusedSimpArgs false
set_option linter.unusedSectionVars false
open Go Go.RowKit

theorem out_stepP (P : PassSt) (M : MemSt) : cStepP.out [.u (.pass P), .u (.mem M)] = [.u (.pass (stepP P M).1), .u (.mem (stepP P M).2), .b ((stepP P M).1.line == 9)] := rfl
theorem out_errP (P : PassSt) : cErrP.out [.u (.pass P)] = [.u (.pass P), .i (errP P)] := rfl
theorem out_last1 (M : MemSt) (f n t : Int) : cLast1.out [.u (.mem M), .i f, .i n, .i t] = [.u (.mem M), .i ((gLast M f n t).getD (-1))] := rfl
theorem pre_last1 (M : MemSt) (f n t : Int) : cLast1.pre [.u (.mem M), .i f, .i n, .i t] = True := eq_true ⟨_, _, _, _, rfl⟩
theorem out_fill (M : MemSt) (f n : Int) : cFill.out [.u (.mem M), .i f, .i n] = [.u (.mem (if 1 ≤ n ∧ n ≤ 32 then fillM M f n.toNat else M))] := rfl
theorem pre_fill (M : MemSt) (f n : Int) : cFill.pre [.u (.mem M), .i f, .i n] = True := eq_true ⟨_, _, _, rfl⟩
theorem pre_begins (a b c d e f n t x y : Int) : cBegins.pre [.i a, .i b, .i c, .i d, .i e, .i f, .i n, .i t, .i x, .i y] = True := eq_true ⟨_, _, _, _, _, _, _, _, _, _, rfl⟩
theorem out_begins (a b c d e f n t x y : Int) : cBegins.out [.i a, .i b, .i c, .i d, .i e, .i f, .i n, .i t, .i x, .i y] = [.u (.pass (newP f n (t.emod 2) (x.emod 50) (y.emod 500))), .i (t.emod 2), .i (x.emod 50), .i (y.emod 500)] := rfl
theorem pre_known : cKnown.pre [] = True := eq_true rfl
theorem out_known : cKnown.out [] = [.b true] := rfl
theorem pre_errP {P : PassSt} (h : P.ok) : cErrP.pre [.u (.pass P)] := ⟨P, rfl, h⟩
theorem pre_stepP {P : PassSt} {M : MemSt} (h : P.ok) : cStepP.pre [.u (.pass P), .u (.mem M)] := ⟨P, M, rfl, h⟩

section
variable {M : MemSt} {at_ x y : Int}
theorem getset {M : MemSt} {a : Nat} (h : a < M.W.length) : M.W.set a (M.W[a]?.getD 0) = M.W := by
  apply List.ext_getElem?
  intro j
  by_cases hj : a = j
  · subst hj
    rw [List.getElem?_set_self h, List.getElem?_eq_getElem h]; rfl
  · rw [List.getElem?_set_ne hj]
theorem load_W : (M.load at_).W = M.W := by
  unfold MemSt.load MemSt.acc
  split
  · rename_i h
    simp only [MemSt.is, decide_eq_true_eq] at h
    simp only [MemSt.word, List.getD]
    exact getset (by omega)
  · rfl
theorem load_n (h : 0 ≤ at_) (h' : at_ < M.W.length) : (M.load at_).n = M.W[at_.toNat]?.getD 0 := by
  have e : M.is at_ = true := by simp [MemSt.is]; omega
  simp [MemSt.load, MemSt.acc, e, MemSt.word, List.getD]
theorem cas_held (h : 0 ≤ at_) (h' : at_ < M.W.length) (hx : M.W[at_.toNat]?.getD 0 = x) : (M.cas at_ x y).h = true ∧ (M.cas at_ x y).W = M.W.set at_.toNat y := by
  have e : M.is at_ = true := by simp [MemSt.is]; omega
  simp [MemSt.cas, MemSt.acc, e, MemSt.word, List.getD, hx]
end
theorem gLast_val {M : MemSt} {t a : Int} (hl : M.W.length = 5) (ht : 0 ≤ t) (ht2 : t < 2) (h : M.W[(1 + t).toNat]?.getD 0 = a + 1) (h1 : -1 ≤ a) (h2 : a < 500) : (gLast M 1 3 t).getD (-1) = a := by
  have hw : IntKind.i64.wrap (1 + t) = 1 + t := wrap_small (by omega) (by omega)
  unfold gLast
  rw [hw, if_neg (by omega), h]
  by_cases ha : a = -1
  · subst ha; rw [if_pos (by omega)]; rfl
  · rw [if_neg (by omega), show a + 1 - 1 = a by omega, wrap_u64 (by omega) (by omega), wrap_small (by omega) (by omega)]; rfl
theorem soon_iff {a now ap : Int} (h1 : -1 ≤ a) (h2 : a < 500) (h3 : 0 ≤ now) (h4 : now < 500) (h5 : 0 ≤ ap) (h6 : ap < 50) : soonB (a + 1) now ap = true ↔ 0 ≤ a ∧ (now < a ∨ now - a < ap) := by
  unfold soonB
  by_cases ha : a = -1
  · subst ha; simp
  · have e1 : IntKind.u64.wrap (a + 1 - 1) = a := by rw [show a + 1 - 1 = a by omega]; exact wrap_u64 (by omega) (by omega)
    rw [e1]
    by_cases hn : now < a
    · simp [hn]; omega
    · rw [wrap_u64 (by omega) (by omega)]; simp [hn]; omega
theorem newP_ok {t ap now : Int} (h : 0 ≤ t) (h0 : t < 2) (h1 : 0 ≤ ap) (h2 : ap < 50) (h3 : 0 ≤ now) (h4 : now < 500) : newP 1 3 t ap now = ⟨1, 1 + t, ap, now, 0, 0⟩ := by
  unfold newP
  rw [if_neg (by omega), wrap_small (n := 1 + t) (by omega) (by omega)]

set_option maxRecDepth 10000 in
set_option maxHeartbeats 8000000 in
theorem bRises0 (P : Program) (hs : List (Nat × Nat × List Nat)) : ∀ env, risesInv2 env → tRisesL0.sat { cxR P with hints := hs } (ctrR cRises) env := by
  rintro env ⟨g, k, c, x4, x5, x6, M, a0, a1, i, t, ap, now, M', P', made, n, rfl, h1, h2, h3, h4, h5, h6, h7, h8, h9, h10, h11, h12, h13, h14, h15, h16, hcase⟩
  have hnew := newP_ok (t := t) (ap := ap) (now := now) h11 h12 h13 h14 h15 h16
  have hwi : IntKind.i64.wrap (i + 1) = i + 1 := wrap_small (by omega) (by omega)
  have hd0 : 0 ≤ a0 → IntKind.i64.wrap (now - a0) = now - a0 := fun _ => wrap_small (by omega) (by omega)
  have hd1 : 0 ≤ a1 → IntKind.i64.wrap (now - a1) = now - a1 := fun _ => wrap_small (by omega) (by omega)
  obtain ⟨A, hA, hA1, hA2, hA3⟩ : ∃ A, M.W[(1 + t).toNat]?.getD 0 = A + 1 ∧ -1 ≤ A ∧ A < 500 ∧ (t = 0 ∧ A = a0 ∨ t = 1 ∧ A = a1) := by
    by_cases ht : t = 0
    · subst ht; exact ⟨a0, by simpa using h5, h7, h8, .inl ⟨rfl, rfl⟩⟩
    · have : t = 1 := by omega
      subst this; exact ⟨a1, by simpa using h6, h9, h10, .inr ⟨rfl, rfl⟩⟩
  have hn0 : (M.load (1 + t)).n = A + 1 := by rw [load_n (by omega) (by omega), hA]
  have hsoon := soon_iff (a := A) (now := now) (ap := ap) hA1 hA2 h15 h16 h13 h14
  have hlw : (M.load (1 + t)).W = M.W := load_W
  have hl0 : (gLast (M.load (1 + t)) 1 3 0).getD (-1) = a0 := gLast_val (by rw [hlw]; exact h4) (by omega) (by omega) (by rw [hlw]; simpa using h5) h7 h8
  have hl1 : (gLast (M.load (1 + t)) 1 3 1).getD (-1) = a1 := gLast_val (by rw [hlw]; exact h4) (by omega) (by omega) (by rw [hlw]; simpa using h6) h9 h10
  rw [hn0] at hcase
  rcases hcase with ⟨rfl, rfl, rfl⟩ | ⟨rfl, rfl, rfl, hns⟩
  · by_cases hso : soonB (A + 1) now ap = true
    · have hst : stepP (newP 1 3 t ap now) M' = (⟨9, 1 + t, ap, now, A + 1, 13⟩, M'.load (1 + t)) := by
        rw [hnew]; simp [stepP, hn0, hso]
      have hw2 := hsoon.1 hso
      simp only [Tree.sat, Bx.den, Ex.den, Bnd.den, gI, gB, gL, gF, gN, gNil, List.map_cons, List.map_nil, List.cons_append, List.nil_append, List.getElem?_cons_zero, List.getElem?_cons_succ, List.getD, Option.getD_some, cmp_eql_t, cmp_eql_f, cmp_neq_t, cmp_neq_f, cmp_lss_t, cmp_lss_f, cmp_leq_t, cmp_leq_f, cmp_gtr_t, cmp_gtr_f, cmp_geq_t, cmp_geq_f, Bool.not_eq_true', Bool.not_eq_false', Bool.and_eq_true, Bool.and_eq_false_iff, binDen, ctrR, Ctr.may, List.take_succ_cons, List.take_zero, Option.some.injEq, EV.u.injEq, tRisesL0, cxR, cx, ctsL, ctsH, ctsG, cRises, out_stepP, hst, out_errP, errP, pre_last1, out_last1, hl0, hl1, true_and, ne_eq, not_true_eq_false, false_implies, true_implies, implies_true, if_true, beq_self_eq_true, List.append_assoc, reduceCtorEq]
      repeat' (first | with_reducible apply And.intro | intro _)
      all_goals first
        | trivial
        | omega
        | exact pre_stepP (.inl ⟨by rw [hnew], by rw [hnew]⟩)
        | exact pre_errP (.inr (.inr rfl))
        | (rw [hwi]; exact ⟨_, _, _, _, _, _, _, _, _, _, rfl, by omega, by omega, h3, by rw [hlw]; exact h4, by rw [hlw]; exact h5, by rw [hlw]; exact h6, h7, h8, h9, h10⟩)
        | (rw [hwi]; show ((k : Int) - (i + 1)).toNat < ((k : Int) - i).toNat; omega)
        | (exfalso; clear hnew hwi hn0 hlw hl0 hl1 hst hsoon hso hA h4 h5 h6; grind [cmpDen])
    · have hst : stepP (newP 1 3 t ap now) M' = (⟨2, 1 + t, ap, now, A + 1, 0⟩, M'.load (1 + t)) := by
        rw [hnew]; simp [stepP, hn0, hso]
      simp only [Tree.sat, Bx.den, Ex.den, Bnd.den, gI, gB, gL, gF, gN, gNil, List.map_cons, List.map_nil, List.cons_append, List.nil_append, List.getElem?_cons_zero, List.getElem?_cons_succ, List.getD, Option.getD_some, cmp_eql_t, cmp_eql_f, cmp_neq_t, cmp_neq_f, cmp_lss_t, cmp_lss_f, cmp_leq_t, cmp_leq_f, cmp_gtr_t, cmp_gtr_f, cmp_geq_t, cmp_geq_f, Bool.not_eq_true', Bool.not_eq_false', Bool.and_eq_true, Bool.and_eq_false_iff, binDen, ctrR, Ctr.may, List.take_succ_cons, List.take_zero, Option.some.injEq, EV.u.injEq, tRisesL0, cxR, cx, ctsL, ctsH, ctsG, cRises, out_stepP, hst, out_errP, errP, pre_last1, out_last1, hl0, hl1, true_and, ne_eq, not_true_eq_false, false_implies, true_implies, implies_true, if_true, beq_self_eq_true, List.append_assoc, reduceCtorEq]
      repeat' (first | with_reducible apply And.intro | intro _)
      all_goals first
        | trivial
        | omega
        | exact pre_stepP (.inl ⟨by rw [hnew], by rw [hnew]⟩)
        | (exfalso; grind)
        | (exact ⟨_, _, _, _, _, _, _, _, _, _, _, _, _, M'.load (1 + t), _, _, _, rfl, h1, h2, h3, h4, h5, h6, h7, h8, h9, h10, h11, h12, h13, h14, h15, h16, .inr ⟨rfl, rfl, by rw [hn0], by rw [hn0]; simpa using hso⟩⟩)
        | (show (3 - 1 : Int).toNat < (3 - 0 : Int).toNat; decide)
  · have hc := cas_held (M := M.load (1 + t)) (at_ := 1 + t) (x := A + 1) (y := now + 1) (by omega) (by rw [hlw]; omega) (by rw [hlw]; exact hA)
    have hun : IntKind.u64.wrap (now + 1) = now + 1 := wrap_u64 (by omega) (by omega)
    have hst : stepP ⟨2, 1 + t, ap, now, A + 1, 0⟩ (M.load (1 + t)) = (⟨9, 1 + t, ap, now, A + 1, 0⟩, (M.load (1 + t)).cas (1 + t) (A + 1) (now + 1)) := by
      simp [stepP, hun, hc.1]
    have hnw : ¬ (0 ≤ A ∧ (now < A ∨ now - A < ap)) := fun h => by rw [hsoon.2 h] at hns; cases hns
    have hcl : ((M.load (1 + t)).cas (1 + t) (A + 1) (now + 1)).W.length = 5 := by rw [hc.2, List.length_set, hlw, h4]
    rcases hA3 with ⟨rfl, rfl⟩ | ⟨rfl, rfl⟩
    · have e5 : ((M.load (1 + 0)).cas (1 + 0) (A + 1) (now + 1)).W[1]?.getD 0 = now + 1 := by rw [hc.2, hlw]; simp [h4]
      have e6 : ((M.load (1 + 0)).cas (1 + 0) (A + 1) (now + 1)).W[2]?.getD 0 = a1 + 1 := by rw [hc.2, hlw]; simpa using h6
      have hl0 := gLast_val (t := 0) (a := now) hcl (by omega) (by omega) (by simpa using e5) (by omega) h16
      have hl1 := gLast_val (t := 1) (a := a1) hcl (by omega) (by omega) (by simpa using e6) h9 h10
      simp only [Tree.sat, Bx.den, Ex.den, Bnd.den, gI, gB, gL, gF, gN, gNil, List.map_cons, List.map_nil, List.cons_append, List.nil_append, List.getElem?_cons_zero, List.getElem?_cons_succ, List.getD, Option.getD_some, cmp_eql_t, cmp_eql_f, cmp_neq_t, cmp_neq_f, cmp_lss_t, cmp_lss_f, cmp_leq_t, cmp_leq_f, cmp_gtr_t, cmp_gtr_f, cmp_geq_t, cmp_geq_f, Bool.not_eq_true', Bool.not_eq_false', Bool.and_eq_true, Bool.and_eq_false_iff, binDen, ctrR, Ctr.may, List.take_succ_cons, List.take_zero, Option.some.injEq, EV.u.injEq, tRisesL0, cxR, cx, ctsL, ctsH, ctsG, cRises, out_stepP, hst, out_errP, errP, pre_last1, out_last1, hl0, hl1, true_and, ne_eq, not_true_eq_false, false_implies, true_implies, implies_true, if_true, beq_self_eq_true, List.append_assoc, reduceCtorEq]
      repeat' (first | with_reducible apply And.intro | intro _)
      all_goals first
        | trivial
        | omega
        | exact pre_stepP (.inr (.inl ⟨rfl, rfl⟩))
        | exact pre_errP (.inr (.inr rfl))
        | (rw [hwi]; exact ⟨_, _, _, _, _, _, _, _, _, _, rfl, by omega, by omega, h3, hcl, e5, e6, by omega, h16, h9, h10⟩)
        | (rw [hwi]; show ((k : Int) - (i + 1)).toNat < ((k : Int) - i).toNat; omega)
        | (exfalso; clear hnew hwi hn0 hlw hl0 hl1 hst hsoon hns hA h4 h5 h6 hc hcl e5 e6; grind [cmpDen])
    · have e5 : ((M.load (1 + 1)).cas (1 + 1) (A + 1) (now + 1)).W[1]?.getD 0 = a0 + 1 := by rw [hc.2, hlw]; simpa using h5
      have e6 : ((M.load (1 + 1)).cas (1 + 1) (A + 1) (now + 1)).W[2]?.getD 0 = now + 1 := by rw [hc.2, hlw]; simp [h4]
      have hl0 := gLast_val (t := 0) (a := a0) hcl (by omega) (by omega) (by simpa using e5) h7 h8
      have hl1 := gLast_val (t := 1) (a := now) hcl (by omega) (by omega) (by simpa using e6) (by omega) h16
      simp only [Tree.sat, Bx.den, Ex.den, Bnd.den, gI, gB, gL, gF, gN, gNil, List.map_cons, List.map_nil, List.cons_append, List.nil_append, List.getElem?_cons_zero, List.getElem?_cons_succ, List.getD, Option.getD_some, cmp_eql_t, cmp_eql_f, cmp_neq_t, cmp_neq_f, cmp_lss_t, cmp_lss_f, cmp_leq_t, cmp_leq_f, cmp_gtr_t, cmp_gtr_f, cmp_geq_t, cmp_geq_f, Bool.not_eq_true', Bool.not_eq_false', Bool.and_eq_true, Bool.and_eq_false_iff, binDen, ctrR, Ctr.may, List.take_succ_cons, List.take_zero, Option.some.injEq, EV.u.injEq, tRisesL0, cxR, cx, ctsL, ctsH, ctsG, cRises, out_stepP, hst, out_errP, errP, pre_last1, out_last1, hl0, hl1, true_and, ne_eq, not_true_eq_false, false_implies, true_implies, implies_true, if_true, beq_self_eq_true, List.append_assoc, reduceCtorEq]
      repeat' (first | with_reducible apply And.intro | intro _)
      all_goals first
        | trivial
        | omega
        | exact pre_stepP (.inr (.inl ⟨rfl, rfl⟩))
        | exact pre_errP (.inr (.inr rfl))
        | (rw [hwi]; exact ⟨_, _, _, _, _, _, _, _, _, _, rfl, by omega, by omega, h3, hcl, e5, e6, h7, h8, by omega, h16⟩)
        | (rw [hwi]; show ((k : Int) - (i + 1)).toNat < ((k : Int) - i).toNat; omega)
        | (exfalso; clear hnew hwi hn0 hlw hl0 hl1 hst hsoon hns hA h4 h5 h6 hc hcl e5 e6; grind [cmpDen])
set_option maxRecDepth 10000 in
set_option maxHeartbeats 4000000 in
theorem bRises1 (P : Program) (hs : List (Nat × Nat × List Nat)) : ∀ env, risesInv env → tRisesL1.sat { cxR P with hints := hs } (ctrR cRises) env := by
  rintro env ⟨g, k, c, x4, x5, x6, M, a0, a1, i, rfl, h1, h2, h3, h4, h5, h6, h7, h8, h9, h10⟩
  have p1 : ∀ x : Int, 0 ≤ x.emod 2 := fun x => Int.emod_nonneg _ (by decide)
  have p2 : ∀ x : Int, x.emod 2 < 2 := fun x => Int.emod_lt_of_pos _ (by decide)
  have p3 : ∀ x : Int, 0 ≤ x.emod 50 := fun x => Int.emod_nonneg _ (by decide)
  have p4 : ∀ x : Int, x.emod 50 < 50 := fun x => Int.emod_lt_of_pos _ (by decide)
  have p5 : ∀ x : Int, 0 ≤ x.emod 500 := fun x => Int.emod_nonneg _ (by decide)
  have p6 : ∀ x : Int, x.emod 500 < 500 := fun x => Int.emod_lt_of_pos _ (by decide)
  simp only [Tree.sat, Bx.den, Ex.den, Bnd.den, gI, gB, gL, gF, gN, gNil, List.map_cons, List.map_nil, List.cons_append, List.nil_append, List.getElem?_cons_zero, List.getElem?_cons_succ, List.getD, Option.getD_some, cmp_eql_t, cmp_eql_f, cmp_neq_t, cmp_neq_f, cmp_lss_t, cmp_lss_f, cmp_leq_t, cmp_leq_f, cmp_gtr_t, cmp_gtr_f, cmp_geq_t, cmp_geq_f, Bool.not_eq_true', Bool.not_eq_false', Bool.and_eq_true, Bool.and_eq_false_iff, binDen, ctrR, Ctr.may, List.take_succ_cons, List.take_zero, Option.some.injEq, EV.u.injEq, tRisesL1, cxR, cx, ctsL, ctsH, ctsG, cRises, pre_begins, out_begins, true_and, ne_eq, not_true_eq_false, false_implies, true_implies, implies_true, if_true, beq_self_eq_true, List.append_assoc, reduceCtorEq]
  repeat' (first | with_reducible apply And.intro | intro _)
  all_goals first
    | trivial
    | omega
    | exact bRises0 P hs _ (by assumption)
    | exact ⟨_, _, _, _, _, _, M, _, _, _, _, _, _, M, _, _, _, rfl, h1, by omega, h3, h4, h5, h6, h7, h8, h9, h10, p1 _, p2 _, p3 _, p4 _, p5 _, p6 _, .inl ⟨rfl, rfl, rfl⟩⟩
theorem fill_new : (fillM (MemSt.new 5) 1 (3 : Int).toNat).W = [0, 0, 0, 0, 0] := by rfl
set_option maxRecDepth 10000 in
set_option maxHeartbeats 4000000 in
theorem vRises (P : Program) (hs : List (Nat × Nat × List Nat)) : ∀ ins, ins.length = cRises.nin → cRises.pre ins → tRises.sat { cxR P with hints := hs } (ctrR cRises) ins := by
  rintro ins _ ⟨g, k, c, rfl⟩
  have hf := fill_new
  generalize hM : fillM (MemSt.new 5) 1 (3 : Int).toNat = M at hf
  have hif : (if (1 : Int) ≤ 3 ∧ (3 : Int) ≤ 32 then fillM (MemSt.new 5) 1 (3 : Int).toNat else MemSt.new 5) = M := by rw [if_pos (by decide), hM]
  simp only [Tree.sat, Bx.den, Ex.den, Bnd.den, gI, gB, gL, gF, gN, gNil, List.map_cons, List.map_nil, List.cons_append, List.nil_append, List.getElem?_cons_zero, List.getElem?_cons_succ, List.getD, Option.getD_some, cmp_eql_t, cmp_eql_f, cmp_neq_t, cmp_neq_f, cmp_lss_t, cmp_lss_f, cmp_leq_t, cmp_leq_f, cmp_gtr_t, cmp_gtr_f, cmp_geq_t, cmp_geq_f, Bool.not_eq_true', Bool.not_eq_false', Bool.and_eq_true, Bool.and_eq_false_iff, binDen, ctrR, Ctr.may, List.take_succ_cons, List.take_zero, Option.some.injEq, EV.u.injEq, tRises, cxR, cx, ctsL, ctsH, ctsG, cRises, pre_known, out_known, pre_new, out_new (show (1:Int) ≤ 5 by decide) (show (5:Int) ≤ 4096 by decide), pre_fill, out_fill, hif, Nil.isNil, true_and, ne_eq, not_true_eq_false, false_implies, true_implies, implies_true, if_true, beq_self_eq_true, List.append_assoc, reduceCtorEq]
  repeat' (first | with_reducible apply And.intro | intro _)
  all_goals first
    | trivial
    | omega
    | exact bRises1 P hs _ (by assumption)
    | exact ⟨_, _, _, _, _, _, _, _, _, _, rfl, by omega, by omega, by omega, by rw [hf]; rfl, by rw [hf]; rfl, by rw [hf]; rfl, by omega, by omega, by omega, by omega⟩
theorem hRises : cRises.Holds objs Try.prog := runCtr_holds (X := { cxR Try.prog with hints := [(7, 14, [4])] }) objsOk mixed hctsL (callable _ Try.func7 (by kernel_rfl) (by kernel_rfl)) (by rintro ins _ ⟨_, _, _, rfl⟩; rfl) (by rw [rRises]; exact vRises _ _)
theorem gateRises_walk {v : Value} {n c : Nat} {g : Nat → Nat → Int} (W : World) (h : SliceAt W wantKs v n c g) : Calls Try.prog 7 #[v] W fun e W' => e = .returned (.bool true) ∧ Below W.heap.size W W' :=
  hRises.law rfl (ins := [.f g n, .i n, .i c]) (ρ := [ptrOf v]) (vals := [v]) rfl ⟨_, _, _, rfl⟩ rfl
    (DenL.cons (h.den rfl (by simp) rfl rfl) DenL.nil)
    (Sat.inputs rfl (by intro m e hm; match m, hm with | 0, hm => cases hm; exact .inl ⟨_, _, rfl, h.ro rfl⟩ | m + 1, hm => cases hm))
end Go.Proofs.Ytjohihkbampbgaa
