/- Stacks: the contracts hold: Pop, Push, All. -/
import Derived.Test.YtdabdbbgaekmdaaKaW
namespace Go.Proofs.Ytdabdbbgaekmdaa
set_option linter.unusedVariables false
set_option linter.unusedSimpArgs false
set_option linter.unusedSectionVars false
open Go Go.RowKit

theorem ofInt_small (a : Nat) (ha : a < 18446744073709551616) : (BitVec.ofInt 64 (a : Int)).toNat = a := by
  rw [BitVec.ofInt_natCast, BitVec.toNat_ofNat]; exact Nat.mod_eq_of_lt (by omega)
theorem i64_and_nat (a b : Nat) (ha : a < 4611686018427387904) (hb : b < 18446744073709551616) : bits .and .i64 (a : Int) (b : Int) = ((a &&& b : Nat) : Int) := by
  have hx : a &&& b ≤ a := Nat.and_le_left
  show IntKind.i64.wrap ((BitVec.ofInt 64 (a : Int) &&& BitVec.ofInt 64 (b : Int)).toNat : Int) = _
  rw [BitVec.toNat_and, ofInt_small a (by omega), ofInt_small b hb]
  exact wrap_small (by omega) (by omega)
theorem and_mod_i (k : Nat) (a : Int) (hk : k < 64) (h0 : 0 ≤ a) (h1 : a < 4611686018427387904) : bits .and .i64 a (2 ^ k - 1) = a % 2 ^ k := by
  obtain ⟨x, rfl⟩ := Int.eq_ofNat_of_zero_le h0
  have hp : 0 < 2 ^ k := Nat.two_pow_pos k
  have hq : 2 ^ k ≤ 2 ^ 63 := Nat.pow_le_pow_right (by omega) (by omega)
  have e : (2 : Int) ^ k - 1 = ((2 ^ k - 1 : Nat) : Int) := by
    rw [Int.ofNat_sub hp]; simp
  rw [e, i64_and_nat x (2 ^ k - 1) (by omega) (by omega), Nat.and_two_pow_sub_one_eq_mod]
  simp
theorem and_i48 {x : Int} (h0 : 0 ≤ x) (h1 : x < 562949953421312) : binDen .and .i64 x 281474976710655 = x % 281474976710656 := and_mod_i 48 x (by decide) h0 (by omega)
theorem tag_next {w : Int} (h : isW w) : binDen .and .i64 (binDen .add .i64 (w / 65536) 1) 281474976710655 = (w / 65536 + 1) % 281474976710656 := by
  obtain ⟨h0, h1⟩ := h
  rw [show binDen .add .i64 (w / 65536) 1 = w / 65536 + 1 from wrap_small (by omega) (by omega), and_i48 (by omega) (by omega)]
theorem tag_next' {w : Int} (h : isW w) : bits .and .i64 (IntKind.i64.wrap (w / 65536 + 1)) 281474976710655 = (w / 65536 + 1) % 281474976710656 := tag_next h
theorem pre_putTop {i w : Int} (h : -1 ≤ i) (h1 : i ≤ 65534) : cPutTop.pre [.i i, .i ((w / 65536 + 1) % 281474976710656)] := ⟨_, _, rfl, h, h1, by omega, by omega⟩
theorem nomore_pop {M : PopSt} : ∀ (t : Nat) (T : ObjT U) (ps : List (EV U)), objs[t]? = some T → t ∉ [5, 6, 7, 8, 9] → ps.length = T.nv → T.ok ps → some (EV.u (U.pop M)) ≠ some (EV.u (T.obj ps)) :=
  nomore_kind (by show ∀ t, t < 27 → t ∉ [5, 6, 7, 8, 9] → kinds.getD t 0 ≠ 6; decide)
theorem nomore_push {M : PushSt} : ∀ (t : Nat) (T : ObjT U) (ps : List (EV U)), objs[t]? = some T → t ∉ [13, 14, 15, 16] → ps.length = T.nv → T.ok ps → some (EV.u (U.push M)) ≠ some (EV.u (T.obj ps)) :=
  nomore_kind (by show ∀ t, t < 27 → t ∉ [13, 14, 15, 16] → kinds.getD t 0 ≠ 10; decide)
theorem nomore_all {M : AllSt} : ∀ (t : Nat) (T : ObjT U) (ps : List (EV U)), objs[t]? = some T → t ∉ [20, 21, 22, 23] → ps.length = T.nv → T.ok ps → some (EV.u (U.all M)) ≠ some (EV.u (T.obj ps)) :=
  nomore_kind (by show ∀ t, t < 27 → t ∉ [20, 21, 22, 23] → kinds.getD t 0 ≠ 14; decide)

theorem vNewPo (P : Program) (hs : List (Nat × Nat × List Nat)) : ∀ ins, ins.length = cNewPo.nin → cNewPo.pre ins → tNewPo.sat { cx P [] with hints := hs } (ctrR cNewPo) ins := by
  rintro ins _ ⟨a, b, n, rfl⟩
  simp only [Tree.sat, Bx.den, Ex.den, Bnd.den, gI, gB, gL, gF, gN, gNil, List.map_cons, List.map_nil, List.cons_append, List.nil_append, List.getElem?_cons_zero, List.getElem?_cons_succ, List.getD, Option.getD_some, cmp_eql_t, cmp_eql_f, cmp_neq_t, cmp_neq_f, cmp_lss_t, cmp_lss_f, cmp_leq_t, cmp_leq_f, cmp_gtr_t, cmp_gtr_f, cmp_geq_t, cmp_geq_f, Bool.not_eq_true', Bool.not_eq_false', Bool.and_eq_true, Bool.and_eq_false_iff, binDen, ctrR, Ctr.may, List.take_succ_cons, List.take_zero, Option.some.injEq, EV.u.injEq, tNewPo, cx, objs, popT1, popT1Obj, cNewPo, newPo, true_and, and_true, ne_eq, not_true_eq_false, not_false_eq_true, false_implies, true_implies, implies_true, List.append_assoc]
  exact ⟨_, _, _, _, _, _, _, rfl⟩
set_option maxHeartbeats 1000000 in
theorem vPoStep (P : Program) (hs : List (Nat × Nat × List Nat)) : ∀ ins, ins.length = cPoStep.nin → cPoStep.pre ins → tPoStep.sat { cx P ctsKT with hints := hs } (ctrR cPoStep) ins := by
  rintro ins _ ⟨p, M, rfl, hp, hM⟩
  simp only [Tree.sat, Bx.den, Ex.den, Bnd.den, gI, gB, gL, gF, gN, gNil, List.map_cons, List.map_nil, List.cons_append, List.nil_append, List.getElem?_cons_zero, List.getElem?_cons_succ, List.getD, Option.getD_some, cmp_eql_t, cmp_eql_f, cmp_neq_t, cmp_neq_f, cmp_lss_t, cmp_lss_f, cmp_leq_t, cmp_leq_f, cmp_gtr_t, cmp_gtr_f, cmp_geq_t, cmp_geq_f, Bool.not_eq_true', Bool.not_eq_false', Bool.and_eq_true, Bool.and_eq_false_iff, binDen, ctrR, Ctr.may, List.take_succ_cons, List.take_zero, Option.some.injEq, EV.u.injEq, tPoStep, cx, ctsKT, ctsM, objs]
  refine ⟨?_, ?_, ?_, ?_, ?_, nomore_pop⟩
  · rintro ps hl ⟨t, l, s, w, i, j, e, rfl⟩ he
    injection he with he; subst he
    simp only [Tree.sat, Bx.den, Ex.den, Bnd.den, gI, gB, gL, gF, gN, gNil, List.map_cons, List.map_nil, List.cons_append, List.nil_append, List.getElem?_cons_zero, List.getElem?_cons_succ, List.getD, Option.getD_some, cmp_eql_t, cmp_eql_f, cmp_neq_t, cmp_neq_f, cmp_lss_t, cmp_lss_f, cmp_leq_t, cmp_leq_f, cmp_gtr_t, cmp_gtr_f, cmp_geq_t, cmp_geq_f, Bool.not_eq_true', Bool.not_eq_false', Bool.and_eq_true, Bool.and_eq_false_iff, binDen, ctrR, Ctr.may, List.take_succ_cons, List.take_zero, Option.some.injEq, EV.u.injEq, popT1, popT2, popT9b, popT1Obj, popT2Obj, popT9bObj, cPoStep, stepPo, pre_load, out_load, out_read, true_and, and_true, ne_eq, not_true_eq_false, not_false_eq_true, false_implies, true_implies, implies_true, List.append_assoc]
    repeat' (first | with_reducible apply And.intro | intro _)
    all_goals first
      | omega
      | exact ⟨_, _, _, _, rfl, n_load hM _⟩
      | exact ⟨_, _, _, _, _, _, rfl, by omega⟩
      | exact ⟨_, _, _, _, _, _, _, rfl, by omega⟩
      | (rename_i h; rw [if_pos h, if_pos rfl, if_pos h]; rfl)
      | (rename_i h; rw [if_pos rfl, if_neg (by omega)]; rfl)
      | (rename_i h; simp [h]; done)
      | (rename_i h; simp [show ¬ idxW s (M.load t).n < 0 from by omega]; done)
  · rintro ps hl ⟨t, l, s, w, i, j, e, rfl, hi⟩ he
    injection he with he; subst he
    simp only [Tree.sat, Bx.den, Ex.den, Bnd.den, gI, gB, gL, gF, gN, gNil, List.map_cons, List.map_nil, List.cons_append, List.nil_append, List.getElem?_cons_zero, List.getElem?_cons_succ, List.getD, Option.getD_some, cmp_eql_t, cmp_eql_f, cmp_neq_t, cmp_neq_f, cmp_lss_t, cmp_lss_f, cmp_leq_t, cmp_leq_f, cmp_gtr_t, cmp_gtr_f, cmp_geq_t, cmp_geq_f, Bool.not_eq_true', Bool.not_eq_false', Bool.and_eq_true, Bool.and_eq_false_iff, binDen, ctrR, Ctr.may, List.take_succ_cons, List.take_zero, Option.some.injEq, EV.u.injEq, popT3, popT2Obj, popT3Obj, cPoStep, stepPo, pre_load, out_load, out_read, true_and, and_true, ne_eq, not_true_eq_false, not_false_eq_true, false_implies, true_implies, implies_true, List.append_assoc]
    repeat' (first | with_reducible apply And.intro | intro _)
    all_goals first
      | omega
      | exact ⟨_, _, _, _, rfl, n_load hM _⟩
      | exact ⟨_, _, _, _, _, _, _, rfl, by omega⟩
      | (simp; done)
  · rintro ps hl ⟨t, l, s, w, i, j, e, rfl, hi⟩ he
    injection he with he; subst he
    obtain ⟨g1, g2, g3, g4⟩ := hp
    simp only [Tree.sat, Bx.den, Ex.den, Bnd.den, gI, gB, gL, gF, gN, gNil, List.map_cons, List.map_nil, List.cons_append, List.nil_append, List.getElem?_cons_zero, List.getElem?_cons_succ, List.getD, Option.getD_some, cmp_eql_t, cmp_eql_f, cmp_neq_t, cmp_neq_f, cmp_lss_t, cmp_lss_f, cmp_leq_t, cmp_leq_f, cmp_gtr_t, cmp_gtr_f, cmp_geq_t, cmp_geq_f, Bool.not_eq_true', Bool.not_eq_false', Bool.and_eq_true, Bool.and_eq_false_iff, binDen, ctrR, Ctr.may, List.take_succ_cons, List.take_zero, Option.some.injEq, EV.u.injEq, popT1, popT9a, popT3Obj, popT1Obj, popT9aObj, cPoStep, stepPo, pre_cas, out_cas, out_getTop, out_putTop, tag_next' g2, true_and, and_true, ne_eq, not_true_eq_false, not_false_eq_true, false_implies, true_implies, implies_true, List.append_assoc]
    repeat' (first | with_reducible apply And.intro | intro _)
    all_goals first
      | omega
      | exact ⟨_, rfl, g2⟩
      | exact pre_putTop g3 g4
      | exact ⟨_, _, _, _, _, _, rfl, by omega⟩
      | exact ⟨_, _, _, _, _, _, _, rfl⟩
      | (rename_i h; simp [topW, h]; done)
  · rintro ps hl ⟨t, l, s, w, i, j, rfl, hi⟩ he
    injection he with he; subst he
    simp only [Tree.sat, Bx.den, Ex.den, Bnd.den, gI, gB, gL, gF, gN, gNil, List.map_cons, List.map_nil, List.cons_append, List.nil_append, List.getElem?_cons_zero, List.getElem?_cons_succ, List.getD, Option.getD_some, cmp_eql_t, cmp_eql_f, cmp_neq_t, cmp_neq_f, cmp_lss_t, cmp_lss_f, cmp_leq_t, cmp_leq_f, cmp_gtr_t, cmp_gtr_f, cmp_geq_t, cmp_geq_f, Bool.not_eq_true', Bool.not_eq_false', Bool.and_eq_true, Bool.and_eq_false_iff, binDen, ctrR, Ctr.may, List.take_succ_cons, List.take_zero, Option.some.injEq, EV.u.injEq, popT9a, popT9aObj, cPoStep, stepPo, true_and, and_true, ne_eq, not_true_eq_false, not_false_eq_true, false_implies, true_implies, implies_true, List.append_assoc]
    repeat' (first | with_reducible apply And.intro | intro _)
    all_goals first
      | exact ⟨_, _, _, _, _, _, rfl, by omega⟩
      | (simp; done)
  · rintro ps hl ⟨t, l, s, w, i, j, rfl, hi⟩ he
    injection he with he; subst he
    simp only [Tree.sat, Bx.den, Ex.den, Bnd.den, gI, gB, gL, gF, gN, gNil, List.map_cons, List.map_nil, List.cons_append, List.nil_append, List.getElem?_cons_zero, List.getElem?_cons_succ, List.getD, Option.getD_some, cmp_eql_t, cmp_eql_f, cmp_neq_t, cmp_neq_f, cmp_lss_t, cmp_lss_f, cmp_leq_t, cmp_leq_f, cmp_gtr_t, cmp_gtr_f, cmp_geq_t, cmp_geq_f, Bool.not_eq_true', Bool.not_eq_false', Bool.and_eq_true, Bool.and_eq_false_iff, binDen, ctrR, Ctr.may, List.take_succ_cons, List.take_zero, Option.some.injEq, EV.u.injEq, popT9b, popT9bObj, cPoStep, stepPo, true_and, and_true, ne_eq, not_true_eq_false, not_false_eq_true, false_implies, true_implies, implies_true, List.append_assoc]
    repeat' (first | with_reducible apply And.intro | intro _)
    all_goals first
      | exact ⟨_, _, _, _, _, _, rfl, by omega⟩
      | (simp; done)
set_option maxHeartbeats 1000000 in
theorem vPoIndex (P : Program) (hs : List (Nat × Nat × List Nat)) : ∀ ins, ins.length = cPoIndex.nin → cPoIndex.pre ins → tPoIndex.sat { cx P [] with hints := hs } (ctrR cPoIndex) ins := by
  rintro ins _ ⟨p, rfl, hp⟩
  simp only [Tree.sat, Bx.den, Ex.den, Bnd.den, gI, gB, gL, gF, gN, gNil, List.map_cons, List.map_nil, List.cons_append, List.nil_append, List.getElem?_cons_zero, List.getElem?_cons_succ, List.getD, Option.getD_some, cmp_eql_t, cmp_eql_f, cmp_neq_t, cmp_neq_f, cmp_lss_t, cmp_lss_f, cmp_leq_t, cmp_leq_f, cmp_gtr_t, cmp_gtr_f, cmp_geq_t, cmp_geq_f, Bool.not_eq_true', Bool.not_eq_false', Bool.and_eq_true, Bool.and_eq_false_iff, binDen, ctrR, Ctr.may, List.take_succ_cons, List.take_zero, Option.some.injEq, EV.u.injEq, tPoIndex, cx, objs]
  refine ⟨?_, ?_, ?_, ?_, ?_, nomore_pop⟩
  · rintro ps hl ⟨t, l, s, w, i, j, e, rfl⟩ he
    injection he with he; subst he
    simp only [Tree.sat, Bx.den, Ex.den, Bnd.den, gI, gB, gL, gF, gN, gNil, List.map_cons, List.map_nil, List.cons_append, List.nil_append, List.getElem?_cons_zero, List.getElem?_cons_succ, List.getD, Option.getD_some, cmp_eql_t, cmp_eql_f, cmp_neq_t, cmp_neq_f, cmp_lss_t, cmp_lss_f, cmp_leq_t, cmp_leq_f, cmp_gtr_t, cmp_gtr_f, cmp_geq_t, cmp_geq_f, Bool.not_eq_true', Bool.not_eq_false', Bool.and_eq_true, Bool.and_eq_false_iff, binDen, ctrR, Ctr.may, List.take_succ_cons, List.take_zero, Option.some.injEq, EV.u.injEq, popT1, popT1Obj, cPoIndex, toldS, true_and, and_true, ne_eq, not_true_eq_false, not_false_eq_true, false_implies, true_implies, implies_true, List.append_assoc]
    exact ⟨⟨_, _, _, _, _, _, _, rfl⟩, by simp⟩
  · rintro ps hl ⟨t, l, s, w, i, j, e, rfl, hi⟩ he
    injection he with he; subst he
    simp only [Tree.sat, Bx.den, Ex.den, Bnd.den, gI, gB, gL, gF, gN, gNil, List.map_cons, List.map_nil, List.cons_append, List.nil_append, List.getElem?_cons_zero, List.getElem?_cons_succ, List.getD, Option.getD_some, cmp_eql_t, cmp_eql_f, cmp_neq_t, cmp_neq_f, cmp_lss_t, cmp_lss_f, cmp_leq_t, cmp_leq_f, cmp_gtr_t, cmp_gtr_f, cmp_geq_t, cmp_geq_f, Bool.not_eq_true', Bool.not_eq_false', Bool.and_eq_true, Bool.and_eq_false_iff, binDen, ctrR, Ctr.may, List.take_succ_cons, List.take_zero, Option.some.injEq, EV.u.injEq, popT2, popT2Obj, cPoIndex, toldS, true_and, and_true, ne_eq, not_true_eq_false, not_false_eq_true, false_implies, true_implies, implies_true, List.append_assoc]
    exact ⟨⟨_, _, _, _, _, _, _, rfl, hi⟩, by simp⟩
  · rintro ps hl ⟨t, l, s, w, i, j, e, rfl, hi⟩ he
    injection he with he; subst he
    simp only [Tree.sat, Bx.den, Ex.den, Bnd.den, gI, gB, gL, gF, gN, gNil, List.map_cons, List.map_nil, List.cons_append, List.nil_append, List.getElem?_cons_zero, List.getElem?_cons_succ, List.getD, Option.getD_some, cmp_eql_t, cmp_eql_f, cmp_neq_t, cmp_neq_f, cmp_lss_t, cmp_lss_f, cmp_leq_t, cmp_leq_f, cmp_gtr_t, cmp_gtr_f, cmp_geq_t, cmp_geq_f, Bool.not_eq_true', Bool.not_eq_false', Bool.and_eq_true, Bool.and_eq_false_iff, binDen, ctrR, Ctr.may, List.take_succ_cons, List.take_zero, Option.some.injEq, EV.u.injEq, popT3, popT3Obj, cPoIndex, toldS, true_and, and_true, ne_eq, not_true_eq_false, not_false_eq_true, false_implies, true_implies, implies_true, List.append_assoc]
    exact ⟨⟨_, _, _, _, _, _, _, rfl, hi⟩, by simp⟩
  · rintro ps hl ⟨t, l, s, w, i, j, rfl, hi⟩ he
    injection he with he; subst he
    simp only [Tree.sat, Bx.den, Ex.den, Bnd.den, gI, gB, gL, gF, gN, gNil, List.map_cons, List.map_nil, List.cons_append, List.nil_append, List.getElem?_cons_zero, List.getElem?_cons_succ, List.getD, Option.getD_some, cmp_eql_t, cmp_eql_f, cmp_neq_t, cmp_neq_f, cmp_lss_t, cmp_lss_f, cmp_leq_t, cmp_leq_f, cmp_gtr_t, cmp_gtr_f, cmp_geq_t, cmp_geq_f, Bool.not_eq_true', Bool.not_eq_false', Bool.and_eq_true, Bool.and_eq_false_iff, binDen, ctrR, Ctr.may, List.take_succ_cons, List.take_zero, Option.some.injEq, EV.u.injEq, popT9a, popT9aObj, cPoIndex, toldS, true_and, and_true, ne_eq, not_true_eq_false, not_false_eq_true, false_implies, true_implies, implies_true, List.append_assoc]
    exact ⟨⟨_, _, _, _, _, _, rfl, hi⟩, by simp [show ¬ i < 0 from by omega]⟩
  · rintro ps hl ⟨t, l, s, w, i, j, rfl, hi⟩ he
    injection he with he; subst he
    simp only [Tree.sat, Bx.den, Ex.den, Bnd.den, gI, gB, gL, gF, gN, gNil, List.map_cons, List.map_nil, List.cons_append, List.nil_append, List.getElem?_cons_zero, List.getElem?_cons_succ, List.getD, Option.getD_some, cmp_eql_t, cmp_eql_f, cmp_neq_t, cmp_neq_f, cmp_lss_t, cmp_lss_f, cmp_leq_t, cmp_leq_f, cmp_gtr_t, cmp_gtr_f, cmp_geq_t, cmp_geq_f, Bool.not_eq_true', Bool.not_eq_false', Bool.and_eq_true, Bool.and_eq_false_iff, binDen, ctrR, Ctr.may, List.take_succ_cons, List.take_zero, Option.some.injEq, EV.u.injEq, popT9b, popT9bObj, cPoIndex, toldS, true_and, and_true, ne_eq, not_true_eq_false, not_false_eq_true, false_implies, true_implies, implies_true, List.append_assoc]
    exact ⟨⟨_, _, _, _, _, _, rfl, hi⟩, by simp [hi]⟩
theorem vNewPu (P : Program) (hs : List (Nat × Nat × List Nat)) : ∀ ins, ins.length = cNewPu.nin → cNewPu.pre ins → tNewPu.sat { cx P [] with hints := hs } (ctrR cNewPu) ins := by
  rintro ins _ ⟨a, b, n, i, rfl⟩
  simp only [Tree.sat, Bx.den, Ex.den, Bnd.den, gI, gB, gL, gF, gN, gNil, List.map_cons, List.map_nil, List.cons_append, List.nil_append, List.getElem?_cons_zero, List.getElem?_cons_succ, List.getD, Option.getD_some, cmp_eql_t, cmp_eql_f, cmp_neq_t, cmp_neq_f, cmp_lss_t, cmp_lss_f, cmp_leq_t, cmp_leq_f, cmp_gtr_t, cmp_gtr_f, cmp_geq_t, cmp_geq_f, Bool.not_eq_true', Bool.not_eq_false', Bool.and_eq_true, Bool.and_eq_false_iff, binDen, ctrR, Ctr.may, List.take_succ_cons, List.take_zero, Option.some.injEq, EV.u.injEq, tNewPu, cx, objs, pushT1, pushT9, pushT1Obj, pushT9Obj, cNewPu, newPu, true_and, and_true, ne_eq, not_true_eq_false, not_false_eq_true, false_implies, true_implies, implies_true, List.append_assoc]
  repeat' (first | with_reducible apply And.intro | intro _)
  all_goals first
    | exact ⟨_, _, _, _, _, _, _, rfl⟩
    | (rename_i h; simp [h]; done)
    | (rw [if_neg (by omega)]; done)
set_option maxHeartbeats 1000000 in
theorem vPuStep (P : Program) (hs : List (Nat × Nat × List Nat)) : ∀ ins, ins.length = cPuStep.nin → cPuStep.pre ins → tPuStep.sat { cx P ctsKT with hints := hs } (ctrR cPuStep) ins := by
  rintro ins _ ⟨p, M, rfl, hp, hM⟩
  simp only [Tree.sat, Bx.den, Ex.den, Bnd.den, gI, gB, gL, gF, gN, gNil, List.map_cons, List.map_nil, List.cons_append, List.nil_append, List.getElem?_cons_zero, List.getElem?_cons_succ, List.getD, Option.getD_some, cmp_eql_t, cmp_eql_f, cmp_neq_t, cmp_neq_f, cmp_lss_t, cmp_lss_f, cmp_leq_t, cmp_leq_f, cmp_gtr_t, cmp_gtr_f, cmp_geq_t, cmp_geq_f, Bool.not_eq_true', Bool.not_eq_false', Bool.and_eq_true, Bool.and_eq_false_iff, binDen, ctrR, Ctr.may, List.take_succ_cons, List.take_zero, Option.some.injEq, EV.u.injEq, tPuStep, cx, ctsKT, ctsM, objs]
  refine ⟨?_, ?_, ?_, ?_, nomore_push⟩
  · rintro ps hl ⟨t, l, s, w, i, j, e, rfl⟩ he
    injection he with he; subst he
    simp only [Tree.sat, Bx.den, Ex.den, Bnd.den, gI, gB, gL, gF, gN, gNil, List.map_cons, List.map_nil, List.cons_append, List.nil_append, List.getElem?_cons_zero, List.getElem?_cons_succ, List.getD, Option.getD_some, cmp_eql_t, cmp_eql_f, cmp_neq_t, cmp_neq_f, cmp_lss_t, cmp_lss_f, cmp_leq_t, cmp_leq_f, cmp_gtr_t, cmp_gtr_f, cmp_geq_t, cmp_geq_f, Bool.not_eq_true', Bool.not_eq_false', Bool.and_eq_true, Bool.and_eq_false_iff, binDen, ctrR, Ctr.may, List.take_succ_cons, List.take_zero, Option.some.injEq, EV.u.injEq, pushT1, pushT2, pushT1Obj, pushT2Obj, cPuStep, stepPu, pre_load, out_load, out_read, true_and, and_true, ne_eq, not_true_eq_false, not_false_eq_true, false_implies, true_implies, implies_true, List.append_assoc]
    repeat' (first | with_reducible apply And.intro | intro _)
    all_goals first
      | exact ⟨_, _, _, _, rfl, n_load hM _⟩
      | exact ⟨_, _, _, _, _, _, _, rfl, rfl⟩
      | (simp; done)
  · rintro ps hl ⟨t, l, s, w, i, j, e, rfl, hj⟩ he
    injection he with he; subst he
    have g1 := idxW_lo s w
    have g2 := idxW_hi s w
    subst hj
    simp only [Tree.sat, Bx.den, Ex.den, Bnd.den, gI, gB, gL, gF, gN, gNil, List.map_cons, List.map_nil, List.cons_append, List.nil_append, List.getElem?_cons_zero, List.getElem?_cons_succ, List.getD, Option.getD_some, cmp_eql_t, cmp_eql_f, cmp_neq_t, cmp_neq_f, cmp_lss_t, cmp_lss_f, cmp_leq_t, cmp_leq_f, cmp_gtr_t, cmp_gtr_f, cmp_geq_t, cmp_geq_f, Bool.not_eq_true', Bool.not_eq_false', Bool.and_eq_true, Bool.and_eq_false_iff, binDen, ctrR, Ctr.may, List.take_succ_cons, List.take_zero, Option.some.injEq, EV.u.injEq, pushT2, pushT3, pushT2Obj, pushT3Obj, cPuStep, stepPu, pre_store, out_store, out_putTop, true_and, and_true, ne_eq, not_true_eq_false, not_false_eq_true, false_implies, true_implies, implies_true, List.append_assoc]
    repeat' (first | with_reducible apply And.intro | intro _)
    all_goals first
      | exact ⟨_, _, rfl, g1, g2, by decide, by decide⟩
      | exact ⟨_, _, _, _, _, _, _, rfl⟩
      | (simp; done)
  · rintro ps hl ⟨t, l, s, w, i, j, e, rfl⟩ he
    injection he with he; subst he
    obtain ⟨g1, g2, g3, g4⟩ := hp
    simp only [Tree.sat, Bx.den, Ex.den, Bnd.den, gI, gB, gL, gF, gN, gNil, List.map_cons, List.map_nil, List.cons_append, List.nil_append, List.getElem?_cons_zero, List.getElem?_cons_succ, List.getD, Option.getD_some, cmp_eql_t, cmp_eql_f, cmp_neq_t, cmp_neq_f, cmp_lss_t, cmp_lss_f, cmp_leq_t, cmp_leq_f, cmp_gtr_t, cmp_gtr_f, cmp_geq_t, cmp_geq_f, Bool.not_eq_true', Bool.not_eq_false', Bool.and_eq_true, Bool.and_eq_false_iff, binDen, ctrR, Ctr.may, List.take_succ_cons, List.take_zero, Option.some.injEq, EV.u.injEq, pushT1, pushT9, pushT3Obj, pushT1Obj, pushT9Obj, cPuStep, stepPu, pre_cas, out_cas, out_getTop, out_putTop, tag_next' g2, true_and, and_true, ne_eq, not_true_eq_false, not_false_eq_true, false_implies, true_implies, implies_true, List.append_assoc]
    repeat' (first | with_reducible apply And.intro | intro _)
    all_goals first
      | exact ⟨_, rfl, g2⟩
      | exact pre_putTop (Int.le_trans (by decide) g3) g4
      | exact ⟨_, _, _, _, _, _, _, rfl⟩
      | (rename_i h; simp [topW, h]; done)
  · rintro ps hl ⟨t, l, s, w, i, j, e, rfl⟩ he
    injection he with he; subst he
    simp only [Tree.sat, Bx.den, Ex.den, Bnd.den, gI, gB, gL, gF, gN, gNil, List.map_cons, List.map_nil, List.cons_append, List.nil_append, List.getElem?_cons_zero, List.getElem?_cons_succ, List.getD, Option.getD_some, cmp_eql_t, cmp_eql_f, cmp_neq_t, cmp_neq_f, cmp_lss_t, cmp_lss_f, cmp_leq_t, cmp_leq_f, cmp_gtr_t, cmp_gtr_f, cmp_geq_t, cmp_geq_f, Bool.not_eq_true', Bool.not_eq_false', Bool.and_eq_true, Bool.and_eq_false_iff, binDen, ctrR, Ctr.may, List.take_succ_cons, List.take_zero, Option.some.injEq, EV.u.injEq, pushT9, pushT9Obj, cPuStep, stepPu, true_and, and_true, ne_eq, not_true_eq_false, not_false_eq_true, false_implies, true_implies, implies_true, List.append_assoc]
    refine ⟨⟨_, _, _, _, _, _, _, rfl⟩, ?_⟩
    by_cases h0 : e = 0
    · first | (simp [h0]; done) | (subst h0; rfl) | trace_state
    · first | (simp [h0]; done) | (simp only [if_neg h0]; rfl) | trace_state
set_option maxHeartbeats 1000000 in
theorem vPuErr (P : Program) (hs : List (Nat × Nat × List Nat)) : ∀ ins, ins.length = cPuErr.nin → cPuErr.pre ins → tPuErr.sat { cx P [] with hints := hs } (ctrR cPuErr) ins := by
  rintro ins _ ⟨p, rfl, hp⟩
  simp only [Tree.sat, Bx.den, Ex.den, Bnd.den, gI, gB, gL, gF, gN, gNil, List.map_cons, List.map_nil, List.cons_append, List.nil_append, List.getElem?_cons_zero, List.getElem?_cons_succ, List.getD, Option.getD_some, cmp_eql_t, cmp_eql_f, cmp_neq_t, cmp_neq_f, cmp_lss_t, cmp_lss_f, cmp_leq_t, cmp_leq_f, cmp_gtr_t, cmp_gtr_f, cmp_geq_t, cmp_geq_f, Bool.not_eq_true', Bool.not_eq_false', Bool.and_eq_true, Bool.and_eq_false_iff, binDen, ctrR, Ctr.may, List.take_succ_cons, List.take_zero, Option.some.injEq, EV.u.injEq, tPuErr, cx, objs]
  refine ⟨?_, ?_, ?_, ?_, nomore_push⟩
  · rintro ps hl ⟨t, l, s, w, i, j, e, rfl⟩ he
    injection he with he; subst he
    simp only [Tree.sat, Bx.den, Ex.den, Bnd.den, gI, gB, gL, gF, gN, gNil, List.map_cons, List.map_nil, List.cons_append, List.nil_append, List.getElem?_cons_zero, List.getElem?_cons_succ, List.getD, Option.getD_some, cmp_eql_t, cmp_eql_f, cmp_neq_t, cmp_neq_f, cmp_lss_t, cmp_lss_f, cmp_leq_t, cmp_leq_f, cmp_gtr_t, cmp_gtr_f, cmp_geq_t, cmp_geq_f, Bool.not_eq_true', Bool.not_eq_false', Bool.and_eq_true, Bool.and_eq_false_iff, binDen, ctrR, Ctr.may, List.take_succ_cons, List.take_zero, Option.some.injEq, EV.u.injEq, pushT1, pushT1Obj, cPuErr, errPu, true_and, and_true, ne_eq, not_true_eq_false, not_false_eq_true, false_implies, true_implies, implies_true, List.append_assoc]
    exact ⟨⟨_, _, _, _, _, _, _, rfl⟩, by simp⟩
  · rintro ps hl ⟨t, l, s, w, i, j, e, rfl, hi⟩ he
    injection he with he; subst he
    simp only [Tree.sat, Bx.den, Ex.den, Bnd.den, gI, gB, gL, gF, gN, gNil, List.map_cons, List.map_nil, List.cons_append, List.nil_append, List.getElem?_cons_zero, List.getElem?_cons_succ, List.getD, Option.getD_some, cmp_eql_t, cmp_eql_f, cmp_neq_t, cmp_neq_f, cmp_lss_t, cmp_lss_f, cmp_leq_t, cmp_leq_f, cmp_gtr_t, cmp_gtr_f, cmp_geq_t, cmp_geq_f, Bool.not_eq_true', Bool.not_eq_false', Bool.and_eq_true, Bool.and_eq_false_iff, binDen, ctrR, Ctr.may, List.take_succ_cons, List.take_zero, Option.some.injEq, EV.u.injEq, pushT2, pushT2Obj, cPuErr, errPu, true_and, and_true, ne_eq, not_true_eq_false, not_false_eq_true, false_implies, true_implies, implies_true, List.append_assoc]
    exact ⟨⟨_, _, _, _, _, _, _, rfl, hi⟩, by simp⟩
  · rintro ps hl ⟨t, l, s, w, i, j, e, rfl⟩ he
    injection he with he; subst he
    simp only [Tree.sat, Bx.den, Ex.den, Bnd.den, gI, gB, gL, gF, gN, gNil, List.map_cons, List.map_nil, List.cons_append, List.nil_append, List.getElem?_cons_zero, List.getElem?_cons_succ, List.getD, Option.getD_some, cmp_eql_t, cmp_eql_f, cmp_neq_t, cmp_neq_f, cmp_lss_t, cmp_lss_f, cmp_leq_t, cmp_leq_f, cmp_gtr_t, cmp_gtr_f, cmp_geq_t, cmp_geq_f, Bool.not_eq_true', Bool.not_eq_false', Bool.and_eq_true, Bool.and_eq_false_iff, binDen, ctrR, Ctr.may, List.take_succ_cons, List.take_zero, Option.some.injEq, EV.u.injEq, pushT3, pushT3Obj, cPuErr, errPu, true_and, and_true, ne_eq, not_true_eq_false, not_false_eq_true, false_implies, true_implies, implies_true, List.append_assoc]
    exact ⟨⟨_, _, _, _, _, _, _, rfl⟩, by simp⟩
  · rintro ps hl ⟨t, l, s, w, i, j, e, rfl⟩ he
    injection he with he; subst he
    simp only [Tree.sat, Bx.den, Ex.den, Bnd.den, gI, gB, gL, gF, gN, gNil, List.map_cons, List.map_nil, List.cons_append, List.nil_append, List.getElem?_cons_zero, List.getElem?_cons_succ, List.getD, Option.getD_some, cmp_eql_t, cmp_eql_f, cmp_neq_t, cmp_neq_f, cmp_lss_t, cmp_lss_f, cmp_leq_t, cmp_leq_f, cmp_gtr_t, cmp_gtr_f, cmp_geq_t, cmp_geq_f, Bool.not_eq_true', Bool.not_eq_false', Bool.and_eq_true, Bool.and_eq_false_iff, binDen, ctrR, Ctr.may, List.take_succ_cons, List.take_zero, Option.some.injEq, EV.u.injEq, pushT9, pushT9Obj, cPuErr, errPu, true_and, and_true, ne_eq, not_true_eq_false, not_false_eq_true, false_implies, true_implies, implies_true, List.append_assoc]
    refine ⟨⟨_, _, _, _, _, _, _, rfl⟩, ?_⟩
    by_cases h0 : e = 0 <;> simp [h0]
theorem vNewAl (P : Program) (hs : List (Nat × Nat × List Nat)) : ∀ ins, ins.length = cNewAl.nin → cNewAl.pre ins → tNewAl.sat { cx P [] with hints := hs } (ctrR cNewAl) ins := by
  rintro ins _ ⟨a, b, n, rfl⟩
  simp only [Tree.sat, Bx.den, Ex.den, Bnd.den, gI, gB, gL, gF, gN, gNil, List.map_cons, List.map_nil, List.cons_append, List.nil_append, List.getElem?_cons_zero, List.getElem?_cons_succ, List.getD, Option.getD_some, cmp_eql_t, cmp_eql_f, cmp_neq_t, cmp_neq_f, cmp_lss_t, cmp_lss_f, cmp_leq_t, cmp_leq_f, cmp_gtr_t, cmp_gtr_f, cmp_geq_t, cmp_geq_f, Bool.not_eq_true', Bool.not_eq_false', Bool.and_eq_true, Bool.and_eq_false_iff, binDen, ctrR, Ctr.may, List.take_succ_cons, List.take_zero, Option.some.injEq, EV.u.injEq, tNewAl, cx, objs, allT1, allT1Obj, cNewAl, newAl, true_and, and_true, ne_eq, not_true_eq_false, not_false_eq_true, false_implies, true_implies, implies_true, List.append_assoc]
  exact ⟨_, _, _, _, _, _, _, rfl⟩
set_option maxHeartbeats 1000000 in
theorem vAlStep (P : Program) (hs : List (Nat × Nat × List Nat)) : ∀ ins, ins.length = cAlStep.nin → cAlStep.pre ins → tAlStep.sat { cx P ctsKT with hints := hs } (ctrR cAlStep) ins := by
  rintro ins _ ⟨p, M, rfl, hp, hM⟩
  simp only [Tree.sat, Bx.den, Ex.den, Bnd.den, gI, gB, gL, gF, gN, gNil, List.map_cons, List.map_nil, List.cons_append, List.nil_append, List.getElem?_cons_zero, List.getElem?_cons_succ, List.getD, Option.getD_some, cmp_eql_t, cmp_eql_f, cmp_neq_t, cmp_neq_f, cmp_lss_t, cmp_lss_f, cmp_leq_t, cmp_leq_f, cmp_gtr_t, cmp_gtr_f, cmp_geq_t, cmp_geq_f, Bool.not_eq_true', Bool.not_eq_false', Bool.and_eq_true, Bool.and_eq_false_iff, binDen, ctrR, Ctr.may, List.take_succ_cons, List.take_zero, Option.some.injEq, EV.u.injEq, tAlStep, cx, ctsKT, ctsM, objs]
  refine ⟨?_, ?_, ?_, ?_, nomore_all⟩
  · rintro ps hl ⟨t, l, s, w, i, j, e, rfl⟩ he
    injection he with he; subst he
    simp only [Tree.sat, Bx.den, Ex.den, Bnd.den, gI, gB, gL, gF, gN, gNil, List.map_cons, List.map_nil, List.cons_append, List.nil_append, List.getElem?_cons_zero, List.getElem?_cons_succ, List.getD, Option.getD_some, cmp_eql_t, cmp_eql_f, cmp_neq_t, cmp_neq_f, cmp_lss_t, cmp_lss_f, cmp_leq_t, cmp_leq_f, cmp_gtr_t, cmp_gtr_f, cmp_geq_t, cmp_geq_f, Bool.not_eq_true', Bool.not_eq_false', Bool.and_eq_true, Bool.and_eq_false_iff, binDen, ctrR, Ctr.may, List.take_succ_cons, List.take_zero, Option.some.injEq, EV.u.injEq, allT1, allT2, allT9b, allT1Obj, allT2Obj, allT9bObj, cAlStep, stepAl, pre_load, out_load, out_read, true_and, and_true, ne_eq, not_true_eq_false, not_false_eq_true, false_implies, true_implies, implies_true, List.append_assoc]
    repeat' (first | with_reducible apply And.intro | intro _)
    all_goals first
      | omega
      | exact ⟨_, _, _, _, rfl, n_load hM _⟩
      | exact ⟨_, _, _, _, _, _, rfl, by omega⟩
      | exact ⟨_, _, _, _, _, _, _, rfl, by omega⟩
      | (rename_i h; simp [h]; done)
      | (rename_i h; simp [show ¬ idxW s (M.load t).n < 0 from by omega]; done)
  · rintro ps hl ⟨t, l, s, w, i, j, e, rfl, hi⟩ he
    injection he with he; subst he
    obtain ⟨g1, g2⟩ := hp
    simp only [Tree.sat, Bx.den, Ex.den, Bnd.den, gI, gB, gL, gF, gN, gNil, List.map_cons, List.map_nil, List.cons_append, List.nil_append, List.getElem?_cons_zero, List.getElem?_cons_succ, List.getD, Option.getD_some, cmp_eql_t, cmp_eql_f, cmp_neq_t, cmp_neq_f, cmp_lss_t, cmp_lss_f, cmp_leq_t, cmp_leq_f, cmp_gtr_t, cmp_gtr_f, cmp_geq_t, cmp_geq_f, Bool.not_eq_true', Bool.not_eq_false', Bool.and_eq_true, Bool.and_eq_false_iff, binDen, ctrR, Ctr.may, List.take_succ_cons, List.take_zero, Option.some.injEq, EV.u.injEq, allT1, allT9a, allT2Obj, allT1Obj, allT9aObj, cAlStep, stepAl, pre_cas, out_cas, out_getTop, out_putTop, tag_next' g2, true_and, and_true, ne_eq, not_true_eq_false, not_false_eq_true, false_implies, true_implies, implies_true, List.append_assoc]
    repeat' (first | with_reducible apply And.intro | intro _)
    all_goals first
      | omega
      | exact ⟨_, rfl, g2⟩
      | exact pre_putTop (by omega) (by omega)
      | exact ⟨_, _, _, _, _, _, rfl, by omega⟩
      | exact ⟨_, _, _, _, _, _, _, rfl⟩
      | (rename_i h; simp at h; simp [topW, h]; done)
  · rintro ps hl ⟨t, l, s, w, i, j, rfl, hi⟩ he
    injection he with he; subst he
    simp only [Tree.sat, Bx.den, Ex.den, Bnd.den, gI, gB, gL, gF, gN, gNil, List.map_cons, List.map_nil, List.cons_append, List.nil_append, List.getElem?_cons_zero, List.getElem?_cons_succ, List.getD, Option.getD_some, cmp_eql_t, cmp_eql_f, cmp_neq_t, cmp_neq_f, cmp_lss_t, cmp_lss_f, cmp_leq_t, cmp_leq_f, cmp_gtr_t, cmp_gtr_f, cmp_geq_t, cmp_geq_f, Bool.not_eq_true', Bool.not_eq_false', Bool.and_eq_true, Bool.and_eq_false_iff, binDen, ctrR, Ctr.may, List.take_succ_cons, List.take_zero, Option.some.injEq, EV.u.injEq, allT9a, allT9aObj, cAlStep, stepAl, true_and, and_true, ne_eq, not_true_eq_false, not_false_eq_true, false_implies, true_implies, implies_true, List.append_assoc]
    repeat' (first | with_reducible apply And.intro | intro _)
    all_goals first
      | exact ⟨_, _, _, _, _, _, rfl, by omega⟩
      | (simp; done)
  · rintro ps hl ⟨t, l, s, w, i, j, rfl, hi⟩ he
    injection he with he; subst he
    simp only [Tree.sat, Bx.den, Ex.den, Bnd.den, gI, gB, gL, gF, gN, gNil, List.map_cons, List.map_nil, List.cons_append, List.nil_append, List.getElem?_cons_zero, List.getElem?_cons_succ, List.getD, Option.getD_some, cmp_eql_t, cmp_eql_f, cmp_neq_t, cmp_neq_f, cmp_lss_t, cmp_lss_f, cmp_leq_t, cmp_leq_f, cmp_gtr_t, cmp_gtr_f, cmp_geq_t, cmp_geq_f, Bool.not_eq_true', Bool.not_eq_false', Bool.and_eq_true, Bool.and_eq_false_iff, binDen, ctrR, Ctr.may, List.take_succ_cons, List.take_zero, Option.some.injEq, EV.u.injEq, allT9b, allT9bObj, cAlStep, stepAl, true_and, and_true, ne_eq, not_true_eq_false, not_false_eq_true, false_implies, true_implies, implies_true, List.append_assoc]
    repeat' (first | with_reducible apply And.intro | intro _)
    all_goals first
      | exact ⟨_, _, _, _, _, _, rfl, by omega⟩
      | (simp; done)
set_option maxHeartbeats 1000000 in
theorem vAlIndex (P : Program) (hs : List (Nat × Nat × List Nat)) : ∀ ins, ins.length = cAlIndex.nin → cAlIndex.pre ins → tAlIndex.sat { cx P [] with hints := hs } (ctrR cAlIndex) ins := by
  rintro ins _ ⟨p, rfl, hp⟩
  simp only [Tree.sat, Bx.den, Ex.den, Bnd.den, gI, gB, gL, gF, gN, gNil, List.map_cons, List.map_nil, List.cons_append, List.nil_append, List.getElem?_cons_zero, List.getElem?_cons_succ, List.getD, Option.getD_some, cmp_eql_t, cmp_eql_f, cmp_neq_t, cmp_neq_f, cmp_lss_t, cmp_lss_f, cmp_leq_t, cmp_leq_f, cmp_gtr_t, cmp_gtr_f, cmp_geq_t, cmp_geq_f, Bool.not_eq_true', Bool.not_eq_false', Bool.and_eq_true, Bool.and_eq_false_iff, binDen, ctrR, Ctr.may, List.take_succ_cons, List.take_zero, Option.some.injEq, EV.u.injEq, tAlIndex, cx, objs]
  refine ⟨?_, ?_, ?_, ?_, nomore_all⟩
  · rintro ps hl ⟨t, l, s, w, i, j, e, rfl⟩ he
    injection he with he; subst he
    simp only [Tree.sat, Bx.den, Ex.den, Bnd.den, gI, gB, gL, gF, gN, gNil, List.map_cons, List.map_nil, List.cons_append, List.nil_append, List.getElem?_cons_zero, List.getElem?_cons_succ, List.getD, Option.getD_some, cmp_eql_t, cmp_eql_f, cmp_neq_t, cmp_neq_f, cmp_lss_t, cmp_lss_f, cmp_leq_t, cmp_leq_f, cmp_gtr_t, cmp_gtr_f, cmp_geq_t, cmp_geq_f, Bool.not_eq_true', Bool.not_eq_false', Bool.and_eq_true, Bool.and_eq_false_iff, binDen, ctrR, Ctr.may, List.take_succ_cons, List.take_zero, Option.some.injEq, EV.u.injEq, allT1, allT1Obj, cAlIndex, toldS, true_and, and_true, ne_eq, not_true_eq_false, not_false_eq_true, false_implies, true_implies, implies_true, List.append_assoc]
    exact ⟨⟨_, _, _, _, _, _, _, rfl⟩, by simp⟩
  · rintro ps hl ⟨t, l, s, w, i, j, e, rfl, hi⟩ he
    injection he with he; subst he
    simp only [Tree.sat, Bx.den, Ex.den, Bnd.den, gI, gB, gL, gF, gN, gNil, List.map_cons, List.map_nil, List.cons_append, List.nil_append, List.getElem?_cons_zero, List.getElem?_cons_succ, List.getD, Option.getD_some, cmp_eql_t, cmp_eql_f, cmp_neq_t, cmp_neq_f, cmp_lss_t, cmp_lss_f, cmp_leq_t, cmp_leq_f, cmp_gtr_t, cmp_gtr_f, cmp_geq_t, cmp_geq_f, Bool.not_eq_true', Bool.not_eq_false', Bool.and_eq_true, Bool.and_eq_false_iff, binDen, ctrR, Ctr.may, List.take_succ_cons, List.take_zero, Option.some.injEq, EV.u.injEq, allT2, allT2Obj, cAlIndex, toldS, true_and, and_true, ne_eq, not_true_eq_false, not_false_eq_true, false_implies, true_implies, implies_true, List.append_assoc]
    exact ⟨⟨_, _, _, _, _, _, _, rfl, hi⟩, by simp⟩
  · rintro ps hl ⟨t, l, s, w, i, j, rfl, hi⟩ he
    injection he with he; subst he
    simp only [Tree.sat, Bx.den, Ex.den, Bnd.den, gI, gB, gL, gF, gN, gNil, List.map_cons, List.map_nil, List.cons_append, List.nil_append, List.getElem?_cons_zero, List.getElem?_cons_succ, List.getD, Option.getD_some, cmp_eql_t, cmp_eql_f, cmp_neq_t, cmp_neq_f, cmp_lss_t, cmp_lss_f, cmp_leq_t, cmp_leq_f, cmp_gtr_t, cmp_gtr_f, cmp_geq_t, cmp_geq_f, Bool.not_eq_true', Bool.not_eq_false', Bool.and_eq_true, Bool.and_eq_false_iff, binDen, ctrR, Ctr.may, List.take_succ_cons, List.take_zero, Option.some.injEq, EV.u.injEq, allT9a, allT9aObj, cAlIndex, toldS, true_and, and_true, ne_eq, not_true_eq_false, not_false_eq_true, false_implies, true_implies, implies_true, List.append_assoc]
    exact ⟨⟨_, _, _, _, _, _, rfl, hi⟩, by simp [show ¬ i < 0 from by omega]⟩
  · rintro ps hl ⟨t, l, s, w, i, j, rfl, hi⟩ he
    injection he with he; subst he
    simp only [Tree.sat, Bx.den, Ex.den, Bnd.den, gI, gB, gL, gF, gN, gNil, List.map_cons, List.map_nil, List.cons_append, List.nil_append, List.getElem?_cons_zero, List.getElem?_cons_succ, List.getD, Option.getD_some, cmp_eql_t, cmp_eql_f, cmp_neq_t, cmp_neq_f, cmp_lss_t, cmp_lss_f, cmp_leq_t, cmp_leq_f, cmp_gtr_t, cmp_gtr_f, cmp_geq_t, cmp_geq_f, Bool.not_eq_true', Bool.not_eq_false', Bool.and_eq_true, Bool.and_eq_false_iff, binDen, ctrR, Ctr.may, List.take_succ_cons, List.take_zero, Option.some.injEq, EV.u.injEq, allT9b, allT9bObj, cAlIndex, toldS, true_and, and_true, ne_eq, not_true_eq_false, not_false_eq_true, false_implies, true_implies, implies_true, List.append_assoc]
    exact ⟨⟨_, _, _, _, _, _, rfl, hi⟩, by simp [hi]⟩
theorem hSChain : cSChain.Holds objs Try.prog := runCtr_holdsm (X := { cxKL Try.prog lSChain with hints := hsSChain }) objsOk mixed hctsKT (callable _ Try.func24 (by kernel_rfl) (by kernel_rfl)) (by rintro ins outs _ ⟨_, _, _, _, rfl, _⟩ ⟨c, rfl⟩; rfl) (by rw [rSChain]; exact vSChain _ _)
theorem hNewPo : cNewPo.Holds objs Try.prog := runCtr_holds (X := { cx Try.prog [] with hints := hsNewPo }) objsOk mixed noCts (callable _ Try.func23 (by kernel_rfl) (by kernel_rfl)) (by rintro ins _ ⟨_, _, _, rfl⟩; rfl) (by rw [rNewPo]; exact vNewPo _ _)
theorem hPoStep : cPoStep.Holds objs Try.prog := runCtr_holds (X := { cx Try.prog ctsKT with hints := hsPoStep }) objsOk mixed hctsKT (callable _ Try.func16 (by kernel_rfl) (by kernel_rfl)) (by rintro ins _ ⟨_, _, rfl, _⟩; rfl) (by rw [rPoStep]; exact vPoStep _ _)
theorem hPoIndex : cPoIndex.Holds objs Try.prog := runCtr_holds (X := { cx Try.prog [] with hints := hsPoIndex }) objsOk mixed noCts (callable _ Try.func14 (by kernel_rfl) (by kernel_rfl)) (by rintro ins _ ⟨_, rfl, _⟩; rfl) (by rw [rPoIndex]; exact vPoIndex _ _)
theorem hNewPu : cNewPu.Holds objs Try.prog := runCtr_holds (X := { cx Try.prog [] with hints := hsNewPu }) objsOk mixed noCts (callable _ Try.func20 (by kernel_rfl) (by kernel_rfl)) (by rintro ins _ ⟨_, _, _, _, rfl⟩; rfl) (by rw [rNewPu]; exact vNewPu _ _)
theorem hPuStep : cPuStep.Holds objs Try.prog := runCtr_holds (X := { cx Try.prog ctsKT with hints := hsPuStep }) objsOk mixed hctsKT (callable _ Try.func17 (by kernel_rfl) (by kernel_rfl)) (by rintro ins _ ⟨_, _, rfl, _⟩; rfl) (by rw [rPuStep]; exact vPuStep _ _)
theorem hPuErr : cPuErr.Holds objs Try.prog := runCtr_holds (X := { cx Try.prog [] with hints := hsPuErr }) objsOk mixed noCts (callable _ Try.func19 (by kernel_rfl) (by kernel_rfl)) (by rintro ins _ ⟨_, rfl, _⟩; rfl) (by rw [rPuErr]; exact vPuErr _ _)
theorem hNewAl : cNewAl.Holds objs Try.prog := runCtr_holds (X := { cx Try.prog [] with hints := hsNewAl }) objsOk mixed noCts (callable _ Try.func30 (by kernel_rfl) (by kernel_rfl)) (by rintro ins _ ⟨_, _, _, rfl⟩; rfl) (by rw [rNewAl]; exact vNewAl _ _)
theorem hAlStep : cAlStep.Holds objs Try.prog := runCtr_holds (X := { cx Try.prog ctsKT with hints := hsAlStep }) objsOk mixed hctsKT (callable _ Try.func18 (by kernel_rfl) (by kernel_rfl)) (by rintro ins _ ⟨_, _, rfl, _⟩; rfl) (by rw [rAlStep]; exact vAlStep _ _)
theorem hAlIndex : cAlIndex.Holds objs Try.prog := runCtr_holds (X := { cx Try.prog [] with hints := hsAlIndex }) objsOk mixed noCts (callable _ Try.func15 (by kernel_rfl) (by kernel_rfl)) (by rintro ins _ ⟨_, rfl, _⟩; rfl) (by rw [rAlIndex]; exact vAlIndex _ _)
end Go.Proofs.Ytdabdbbgaekmdaa
