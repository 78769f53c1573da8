/- The document's epochs: the contracts hold. -/
import Derived.Test.YtjohihkbampbgaaEdT
namespace Go.Proofs.Ytjohihkbampbgaa
set_option linter.unusedVariables false
set_option linter.unusedSimpArgs false
set_option linter.unusedSectionVars false
open Go

theorem isW0 : isW 0 := ⟨by decide, by decide⟩
theorem fine_get {M : MemSt} (h : M.fine) (i : Nat) : isW (M.W[i]?.getD 0) := by
  cases e : M.W[i]? with
  | none => exact isW0
  | some x => exact h.2 x (List.mem_of_getElem? e)
theorem fine_word {M : MemSt} (h : M.fine) (x : Int) : isW (M.word x) := fine_get h _
theorem fine_at0 {M : MemSt} (h : M.fine) (x : Int) : isW (M.at0 x) := by
  unfold MemSt.at0; split
  · exact fine_get h _
  · exact isW0
theorem fine_acc {M : MemSt} (h : M.fine) {k a w : Int} {b : Bool} (hw : isW w) : (M.acc k a w b).fine := by
  refine ⟨by rw [len_acc]; exact h.1, fun x hx => ?_⟩
  unfold MemSt.acc at hx
  split at hx
  · rcases List.mem_or_eq_of_mem_set hx with hx | rfl
    · exact h.2 x hx
    · exact hw
  · exact h.2 x hx
theorem n_acc {M : MemSt} {k a w : Int} {b : Bool} (hw : isW w) : isW (M.acc k a w b).n := by
  unfold MemSt.acc; split
  · exact hw
  · exact isW0
theorem fine_load {M : MemSt} (h : M.fine) (x : Int) : (M.load x).fine := fine_acc h (fine_word h x)
theorem n_load {M : MemSt} (h : M.fine) (x : Int) : isW (M.load x).n := n_acc (fine_word h x)
theorem fine_store {M : MemSt} (h : M.fine) {x w : Int} (hw : isW w) : (M.store x w).fine := fine_acc h hw
theorem fine_cas {M : MemSt} (h : M.fine) {x y z : Int} (hw : isW z) : (M.cas x y z).fine := by
  unfold MemSt.cas; split
  · exact fine_acc h hw
  · exact fine_acc h (fine_word h x)
theorem fine_fillM {M : MemSt} (h : M.fine) (f : Int) : ∀ k, (fillM M f k).fine
  | 0 => h
  | k + 1 => fine_store (fine_fillM h f k) isW0
theorem fine_fillE {M : MemSt} (h : M.fine) (a b n : Int) : (fillE M a b n).fine := by
  unfold fillE; split
  · exact fine_fillM (fine_store h isW0) _ _
  · exact h
theorem tmod_u32 {x : Int} (h : 0 ≤ x) : IntKind.i64.wrap (x.tmod 4294967296) = u32 x := by
  rw [Int.tmod_eq_emod_of_nonneg h]
  have h1 := Int.emod_nonneg x (show (4294967296 : Int) ≠ 0 by decide)
  have h2 := Int.emod_lt_of_pos x (show (0 : Int) < 4294967296 by decide)
  rw [wrap_small (by omega) (by omega)]
  simp [u32, IntKind.wrap, IntKind.signed, IntKind.bits]
theorem wrap64_lo (x : Int) : 0 ≤ IntKind.u64.wrap x := by simp [IntKind.wrap, IntKind.signed, IntKind.bits]; omega
theorem fl_load {M : MemSt} (h : M.fine) {x : Int} : cQLoad.pre [.u (.rmem M), .i x] := ⟨_, _, rfl, h.1⟩
theorem fl_store {M : MemSt} (h : M.fine) {x y : Int} : cQStore.pre [.u (.rmem M), .i x, .i y] := ⟨_, _, _, rfl, h.1⟩
theorem fl_cas {M : MemSt} (h : M.fine) {x y z : Int} : cQCAS.pre [.u (.rmem M), .i x, .i y, .i z] := ⟨_, _, _, _, rfl, h.1⟩
theorem fl_at {M : MemSt} (h : M.fine) {x : Int} : cQAt.pre [.u (.rmem M), .i x] := ⟨_, _, rfl, h.1⟩
theorem fo_load (M : MemSt) (x : Int) : cQLoad.out [.u (.rmem M), .i x] = [.u (.rmem (M.load x)), .i (M.load x).n] := rfl
theorem fo_store (M : MemSt) (x y : Int) : cQStore.out [.u (.rmem M), .i x, .i y] = [.u (.rmem (M.store x y))] := rfl
theorem fo_cas (M : MemSt) (x y z : Int) : cQCAS.out [.u (.rmem M), .i x, .i y, .i z] = [.u (.rmem (M.cas x y z)), .b (M.cas x y z).h] := rfl
theorem fo_at (M : MemSt) (x : Int) : cQAt.out [.u (.rmem M), .i x] = [.u (.rmem M), .i (M.at0 x)] := rfl
theorem nomore_repin {M : EPinSt} : ∀ (t : Nat) (T : ObjT U) (ps : List (EV U)), objs[t]? = some T → t ∉ [14] → ps.length = T.nv → T.ok ps → some (EV.u (U.repin M)) ≠ some (EV.u (T.obj ps)) :=
  nomore_kind (by show ∀ t, t < 26 → t ∉ [14] → kinds.getD t 0 ≠ 12; decide)
theorem nomore_reunp {M : EUnpSt} : ∀ (t : Nat) (T : ObjT U) (ps : List (EV U)), objs[t]? = some T → t ∉ [19] → ps.length = T.nv → T.ok ps → some (EV.u (U.reunp M)) ≠ some (EV.u (T.obj ps)) :=
  nomore_kind (by show ∀ t, t < 26 → t ∉ [19] → kinds.getD t 0 ≠ 16; decide)
theorem nomore_readv {M : EAdvSt} : ∀ (t : Nat) (T : ObjT U) (ps : List (EV U)), objs[t]? = some T → t ∉ [24] → ps.length = T.nv → T.ok ps → some (EV.u (U.readv M)) ≠ some (EV.u (T.obj ps)) :=
  nomore_kind (by show ∀ t, t < 26 → t ∉ [24] → kinds.getD t 0 ≠ 20; decide)

set_option maxHeartbeats 1000000 in
theorem vQEFits (P : Program) (hs : List (Nat × Nat × List Nat)) : ∀ ins, ins.length = cQEFits.nin → cQEFits.pre ins → tQEFits.sat { cx P [] with hints := hs } (ctrR cQEFits) ins := by
  rintro ins _ ⟨a, b, n, s, rfl⟩
  simp only [Tree.sat, Bx.den, Ex.den, Bnd.den, gI, gB, gL, gF, gN, gNil, List.map_cons, List.map_nil, List.cons_append, List.nil_append, List.getElem?_cons_zero, List.getElem?_cons_succ, List.getD, Option.getD_some, cmp_eql_t, cmp_eql_f, cmp_neq_t, cmp_neq_f, cmp_lss_t, cmp_lss_f, cmp_leq_t, cmp_leq_f, cmp_gtr_t, cmp_gtr_f, cmp_geq_t, cmp_geq_f, Bool.not_eq_true', Bool.not_eq_false', Bool.and_eq_true, Bool.and_eq_false_iff, binDen, ctrR, Ctr.may, List.take_succ_cons, List.take_zero, Option.some.injEq, EV.u.injEq, tQEFits, cx, cQEFits, fitsE, true_and, and_true, ne_eq, not_true_eq_false, not_false_eq_true, false_implies, true_implies, implies_true, List.append_assoc]
  repeat' (first | with_reducible apply And.intro | intro _)
  all_goals first
    | omega
    | (rw [if_pos (by omega)])
    | (rw [if_neg (by omega), if_pos (by omega)])
    | (rw [if_neg (by omega), if_neg (by omega)])
set_option maxHeartbeats 1000000 in
theorem vQEFill (P : Program) (hs : List (Nat × Nat × List Nat)) : ∀ ins, ins.length = cQEFill.nin → cQEFill.pre ins → tQEFill.sat { cxQE P lQEFill with hints := hs } (ctrR cQEFill) ins := by
  have hb : ∀ env, qeFillInv env → tQEFillL0.sat { cxQE P lQEFill with hints := hs } (ctrR cQEFill) env := by
    rintro env ⟨M, a, b, n, x0, i, rfl, h1, h2, h3, h4, h5⟩
    simp only [Tree.sat, Bx.den, Ex.den, Bnd.den, gI, gB, gL, gF, gN, gNil, List.map_cons, List.map_nil, List.cons_append, List.nil_append, List.getElem?_cons_zero, List.getElem?_cons_succ, List.getD, Option.getD_some, cmp_eql_t, cmp_eql_f, cmp_neq_t, cmp_neq_f, cmp_lss_t, cmp_lss_f, cmp_leq_t, cmp_leq_f, cmp_gtr_t, cmp_gtr_f, cmp_geq_t, cmp_geq_f, Bool.not_eq_true', Bool.not_eq_false', Bool.and_eq_true, Bool.and_eq_false_iff, binDen, ctrR, Ctr.may, List.take_succ_cons, List.take_zero, Option.some.injEq, EV.u.injEq, tQEFillL0, cxQE, lQEFill, cx, ctsQE, cQEFill, fo_store, true_and, and_true, ne_eq, not_true_eq_false, not_false_eq_true, false_implies, true_implies, implies_true, List.append_assoc]
    repeat' (first | with_reducible apply And.intro | intro _)
    all_goals first
      | omega
      | exact fl_store (fine_fillM (fine_store h5 isW0) _ _)
      | (rw [wrap_small (n := i + 1) (by omega) (by omega)]; exact ⟨M, a, b, n, _, i + 1, by rw [fillM_succ _ b i h1], by omega, by omega, h3, h4, h5⟩)
      | (rw [wrap_small (n := i + 1) (by omega) (by omega)]; show (n - (i + 1)).toNat < (n - i).toNat; omega)
      | (have : i = n := by omega
         subst this
         rw [fillE, if_pos ⟨h3, h4⟩])
  rintro ins _ ⟨M, a, b, n, rfl, h5⟩
  simp only [Tree.sat, Bx.den, Ex.den, Bnd.den, gI, gB, gL, gF, gN, gNil, List.map_cons, List.map_nil, List.cons_append, List.nil_append, List.getElem?_cons_zero, List.getElem?_cons_succ, List.getD, Option.getD_some, cmp_eql_t, cmp_eql_f, cmp_neq_t, cmp_neq_f, cmp_lss_t, cmp_lss_f, cmp_leq_t, cmp_leq_f, cmp_gtr_t, cmp_gtr_f, cmp_geq_t, cmp_geq_f, Bool.not_eq_true', Bool.not_eq_false', Bool.and_eq_true, Bool.and_eq_false_iff, binDen, ctrR, Ctr.may, List.take_succ_cons, List.take_zero, Option.some.injEq, EV.u.injEq, tQEFill, cxQE, lQEFill, cx, ctsQE, cQEFill, fo_store, true_and, and_true, ne_eq, not_true_eq_false, not_false_eq_true, false_implies, true_implies, implies_true, List.append_assoc]
  repeat' (first | with_reducible apply And.intro | intro _)
  all_goals first
    | omega
    | exact fl_store h5
    | (rw [fillE, if_neg (by omega)])
    | exact hb _ (by assumption)
    | exact ⟨M, a, b, n, _, 0, rfl, by omega, by omega, by omega, by omega, h5⟩
set_option maxHeartbeats 1000000 in
theorem vQENow (P : Program) (hs : List (Nat × Nat × List Nat)) : ∀ ins, ins.length = cQENow.nin → cQENow.pre ins → tQENow.sat { cx P ctsQE with hints := hs } (ctrR cQENow) ins := by
  rintro ins _ ⟨M, a, b, n, rfl, h⟩
  simp only [Tree.sat, Bx.den, Ex.den, Bnd.den, gI, gB, gL, gF, gN, gNil, List.map_cons, List.map_nil, List.cons_append, List.nil_append, List.getElem?_cons_zero, List.getElem?_cons_succ, List.getD, Option.getD_some, cmp_eql_t, cmp_eql_f, cmp_neq_t, cmp_neq_f, cmp_lss_t, cmp_lss_f, cmp_leq_t, cmp_leq_f, cmp_gtr_t, cmp_gtr_f, cmp_geq_t, cmp_geq_f, Bool.not_eq_true', Bool.not_eq_false', Bool.and_eq_true, Bool.and_eq_false_iff, binDen, ctrR, Ctr.may, List.take_succ_cons, List.take_zero, Option.some.injEq, EV.u.injEq, tQENow, cx, ctsQE, cQENow, fo_at, true_and, and_true, ne_eq, not_true_eq_false, not_false_eq_true, false_implies, true_implies, implies_true, List.append_assoc]
  exact ⟨fl_at h, by rw [tmod_u32 (fine_at0 h a).1]⟩
theorem manyE_le (n : Int) : manyE n ≤ 64 := by unfold manyE; split <;> omega
theorem manyE_is {n : Int} (h : 1 ≤ n) (h' : n ≤ 64) : (manyE n : Int) = n := by unfold manyE; rw [if_pos ⟨h, h'⟩]; omega
set_option maxHeartbeats 2000000 in
theorem vQEPinned (P : Program) (hs : List (Nat × Nat × List Nat)) : ∀ ins, ins.length = cQEPinned.nin → cQEPinned.pre ins → tQEPinned.sat { cxQE P lQEPinned with hints := hs } (ctrR cQEPinned) ins := by
  have hb : ∀ env, qePinnedInv env → tQEPinnedL0.sat { cxQE P lQEPinned with hints := hs } (ctrR cQEPinned) env := by
    rintro env ⟨M, a, b, n, i, xs, c, rfl, h1, h2, h5, h6, h7, h8⟩
    have hnext : 1 ≤ n → n ≤ 64 → i < n → ∀ (r : List Int) (x : Int), x = pinAt M b i.toNat → qePinnedInv [.u (.rmem M), .i a, .i b, .i n, .u (.rmem M), .i (IntKind.i64.wrap (i + 1)), .l (xs.take i.toNat ++ x :: r), .i ((i.toNat + 1 + r.length : Nat) : Int)] := by
      intro g1 g2 hi r x hx
      have hm := manyE_is g1 g2
      rw [wrap_small (n := i + 1) (by omega) (by omega)]
      refine ⟨M, a, b, n, i + 1, _, _, rfl, by omega, by omega, by rw [len_app (by omega)], by omega, ?_, h8⟩
      rw [toNat_succ h1, take_app h7 (by omega), pinned_succ, hx]
    have hpa : pinAt M b i.toNat = if M.at0 (IntKind.i64.wrap (b + i)) = 0 then -1 else u32 (IntKind.u64.wrap (M.at0 (IntKind.i64.wrap (b + i)) - 1)) := by
      unfold pinAt; rw [show ((i.toNat : Nat) : Int) = i from by omega]
    have hend : i = manyE n → ∃ n_1, [EV.u (.rmem M), EV.l xs, EV.i i, EV.i c] = [EV.u (U.rmem M), EV.l (pinnedL M b (manyE n) ++ n_1), EV.i ↑(manyE n), EV.i ↑(manyE n + n_1.length)] := by
      intro hi
      have e : i.toNat = manyE n := by omega
      rw [e] at h7
      obtain ⟨r, hr⟩ := split_at h7
      refine ⟨r, ?_⟩
      have hl : c = ((manyE n + r.length : Nat) : Int) := by rw [h5, hr, List.length_append, pinned_len]
      rw [← hr, hl, ← hi]
    simp only [Tree.sat, Bx.den, Ex.den, Bnd.den, gI, gB, gL, gF, gN, gNil, List.map_cons, List.map_nil, List.cons_append, List.nil_append, List.getElem?_cons_zero, List.getElem?_cons_succ, List.getD, Option.getD_some, cmp_eql_t, cmp_eql_f, cmp_neq_t, cmp_neq_f, cmp_lss_t, cmp_lss_f, cmp_leq_t, cmp_leq_f, cmp_gtr_t, cmp_gtr_f, cmp_geq_t, cmp_geq_f, Bool.not_eq_true', Bool.not_eq_false', Bool.and_eq_true, Bool.and_eq_false_iff, binDen, ctrR, Ctr.may, List.take_succ_cons, List.take_zero, Option.some.injEq, EV.u.injEq, tQEPinnedL0, cxQE, lQEPinned, cx, ctsQE, cQEPinned, fo_at, true_and, and_true, ne_eq, not_true_eq_false, not_false_eq_true, false_implies, true_implies, implies_true, List.append_assoc]
    repeat' (first | with_reducible apply And.intro | intro _)
    all_goals first
      | omega
      | exact fl_at h8
      | (have := manyE_le n; omega)
      | (refine hnext (by omega) (by omega) (by omega) _ _ ?_; rw [hpa, if_pos (by assumption)]; done)
      | (refine hnext (by omega) (by omega) (by omega) _ _ ?_; rw [hpa, if_neg (by assumption), tmod_u32 (wrap64_lo _)]; done)
      | (rw [wrap_small (n := i + 1) (by omega) (by omega)]; show (n - (i + 1)).toNat < (n - i).toNat; omega)
      | (apply hend; have hm := manyE_is (n := n) (by omega) (by omega); omega)
      | (apply hend; rw [manyE_0 (by omega)] at h2 ⊢; omega)
  rintro ins _ ⟨M, a, b, n, rfl, h⟩
  simp only [Tree.sat, Bx.den, Ex.den, Bnd.den, gI, gB, gL, gF, gN, gNil, List.map_cons, List.map_nil, List.cons_append, List.nil_append, List.getElem?_cons_zero, List.getElem?_cons_succ, List.getD, Option.getD_some, cmp_eql_t, cmp_eql_f, cmp_neq_t, cmp_neq_f, cmp_lss_t, cmp_lss_f, cmp_leq_t, cmp_leq_f, cmp_gtr_t, cmp_gtr_f, cmp_geq_t, cmp_geq_f, Bool.not_eq_true', Bool.not_eq_false', Bool.and_eq_true, Bool.and_eq_false_iff, binDen, ctrR, Ctr.may, List.take_succ_cons, List.take_zero, Option.some.injEq, EV.u.injEq, tQEPinned, cxQE, lQEPinned, cx, ctsQE, cQEPinned, true_and, and_true, ne_eq, not_true_eq_false, not_false_eq_true, false_implies, true_implies, implies_true, List.append_assoc]
  repeat' (first | with_reducible apply And.intro | intro _)
  all_goals first
    | exact hb _ (by assumption)
    | exact ⟨M, a, b, n, 0, [], 0, rfl, by omega, by omega, rfl, by omega, rfl, h⟩
set_option maxHeartbeats 1000000 in
theorem vQNewPin (P : Program) (hs : List (Nat × Nat × List Nat)) : ∀ ins, ins.length = cQNewPin.nin → cQNewPin.pre ins → tQNewPin.sat { cx P [] with hints := hs } (ctrR cQNewPin) ins := by
  rintro ins _ ⟨a, b, n, c, rfl⟩
  have e9 : rline 9 = -1 := rfl
  have e1 : rline 1 = 0 := rfl
  have ew : IntKind.i64.wrap (0 + 0) = 0 := rfl
  simp only [Tree.sat, Bx.den, Ex.den, Bnd.den, gI, gB, gL, gF, gN, gNil, List.map_cons, List.map_nil, List.cons_append, List.nil_append, List.getElem?_cons_zero, List.getElem?_cons_succ, List.getD, Option.getD_some, cmp_eql_t, cmp_eql_f, cmp_neq_t, cmp_neq_f, cmp_lss_t, cmp_lss_f, cmp_leq_t, cmp_leq_f, cmp_gtr_t, cmp_gtr_f, cmp_geq_t, cmp_geq_f, Bool.not_eq_true', Bool.not_eq_false', Bool.and_eq_true, Bool.and_eq_false_iff, binDen, ctrR, Ctr.may, List.take_succ_cons, List.take_zero, Option.some.injEq, EV.u.injEq, tQNewPin, cx, objs, repinT, repinObj, repinOk, cQNewPin, newEP, e9, e1, ew, true_and, and_true, ne_eq, not_true_eq_false, not_false_eq_true, false_implies, true_implies, implies_true, List.append_assoc]
  repeat' (first | with_reducible apply And.intro | intro _)
  all_goals first
    | exact ⟨_, _, _, _, _, _, _, rfl, by omega, by omega, by omega⟩
    | (rw [if_pos (by omega)])
    | (rw [if_neg (by omega)])
set_option maxHeartbeats 2000000 in
theorem vQPinStep (P : Program) (hs : List (Nat × Nat × List Nat)) : ∀ ins, ins.length = cQPinStep.nin → cQPinStep.pre ins → tQPinStep.sat { cx P ctsQE with hints := hs } (ctrR cQPinStep) ins := by
  rintro ins _ ⟨p, M, rfl, hp, hM⟩
  simp only [Tree.sat, Bx.den, Ex.den, Bnd.den, gI, gB, gL, gF, gN, gNil, List.map_cons, List.map_nil, List.cons_append, List.nil_append, List.getElem?_cons_zero, List.getElem?_cons_succ, List.getD, Option.getD_some, cmp_eql_t, cmp_eql_f, cmp_neq_t, cmp_neq_f, cmp_lss_t, cmp_lss_f, cmp_leq_t, cmp_leq_f, cmp_gtr_t, cmp_gtr_f, cmp_geq_t, cmp_geq_f, Bool.not_eq_true', Bool.not_eq_false', Bool.and_eq_true, Bool.and_eq_false_iff, binDen, ctrR, Ctr.may, List.take_succ_cons, List.take_zero, Option.some.injEq, EV.u.injEq, tQPinStep, cx, ctsQE, objs]
  refine ⟨?_, nomore_repin⟩
  rintro ps _ ⟨a, b, n, c, l, q, e, rfl, hl, hw1, hw2⟩ he
  injection he with he; subst he
  have e9 : rline 9 = -1 := rfl
  have e1 : rline 1 = 0 := rfl
  have e2 : rline 2 = 1 := rfl
  have e3 : rline 3 = 2 := rfl
  have hn : ∀ x, 0 ≤ (M.load x).n := fun x => (n_load hM x).1
  simp only [Tree.sat, Bx.den, Ex.den, Bnd.den, gI, gB, gL, gF, gN, gNil, List.map_cons, List.map_nil, List.cons_append, List.nil_append, List.getElem?_cons_zero, List.getElem?_cons_succ, List.getD, Option.getD_some, cmp_eql_t, cmp_eql_f, cmp_neq_t, cmp_neq_f, cmp_lss_t, cmp_lss_f, cmp_leq_t, cmp_leq_f, cmp_gtr_t, cmp_gtr_f, cmp_geq_t, cmp_geq_f, Bool.not_eq_true', Bool.not_eq_false', Bool.and_eq_true, Bool.and_eq_false_iff, binDen, ctrR, Ctr.may, List.take_succ_cons, List.take_zero, Option.some.injEq, EV.u.injEq, repinT, repinObj, repinOk, cQPinStep, stepEP, fo_load, fo_store, tmod_u32 (hn _), true_and, and_true, ne_eq, not_true_eq_false, not_false_eq_true, false_implies, true_implies, implies_true, List.append_assoc]
  rw [wrap_u64' (n := q) (by omega) (by omega), wrap_u64' (n := q + 1) (by omega) (by omega)]
  obtain ⟨hp, _, _⟩ := hp
  rcases hl with rfl | rfl | rfl | rfl
  all_goals
    simp only [repinObj, e9, e1, e2, e3, Int.reduceEq, Int.reduceNeg, reduceIte, not_true_eq_false, not_false_eq_true, false_implies, true_implies, implies_true, and_true, true_and, ne_eq, false_or, or_false, true_or, or_true, false_and, and_false, and_self, Int.reduceBEq, beq_self_eq_true, cmpDen] at hp ⊢
    repeat' (first | with_reducible apply And.intro | intro _)
  all_goals first
    | omega
    | exact fl_load hM
    | exact fl_store hM
    | exact ⟨_, _, _, _, _, _, _, rfl, by omega, by omega, by omega⟩
    | exact ⟨_, _, _, _, _, _, _, rfl, by omega, u32_lo _, u32_hi _⟩
    | (simp [*]; done)
    | (simp [*]; omega)
    | (have : e = 0 := by omega
       subst this
       simp [cmpDen, *]; done)
set_option maxHeartbeats 1000000 in
theorem vQPinAt (P : Program) (hs : List (Nat × Nat × List Nat)) : ∀ ins, ins.length = cQPinAt.nin → cQPinAt.pre ins → tQPinAt.sat { cx P [] with hints := hs } (ctrR cQPinAt) ins := by
  rintro ins _ ⟨p, rfl, hp⟩
  simp only [Tree.sat, Bx.den, Ex.den, Bnd.den, gI, gB, gL, gF, gN, gNil, List.map_cons, List.map_nil, List.cons_append, List.nil_append, List.getElem?_cons_zero, List.getElem?_cons_succ, List.getD, Option.getD_some, cmp_eql_t, cmp_eql_f, cmp_neq_t, cmp_neq_f, cmp_lss_t, cmp_lss_f, cmp_leq_t, cmp_leq_f, cmp_gtr_t, cmp_gtr_f, cmp_geq_t, cmp_geq_f, Bool.not_eq_true', Bool.not_eq_false', Bool.and_eq_true, Bool.and_eq_false_iff, binDen, ctrR, Ctr.may, List.take_succ_cons, List.take_zero, Option.some.injEq, EV.u.injEq, tQPinAt, cx, objs]
  refine ⟨?_, nomore_repin⟩
  rintro ps _ ⟨a, b, n, c, l, q, e, rfl, hl, hw1, hw2⟩ he
  injection he with he; subst he
  have e9 : rline 9 = -1 := rfl
  have e1 : rline 1 = 0 := rfl
  have e2 : rline 2 = 1 := rfl
  have e3 : rline 3 = 2 := rfl
  simp only [Tree.sat, Bx.den, Ex.den, Bnd.den, gI, gB, gL, gF, gN, gNil, List.map_cons, List.map_nil, List.cons_append, List.nil_append, List.getElem?_cons_zero, List.getElem?_cons_succ, List.getD, Option.getD_some, cmp_eql_t, cmp_eql_f, cmp_neq_t, cmp_neq_f, cmp_lss_t, cmp_lss_f, cmp_leq_t, cmp_leq_f, cmp_gtr_t, cmp_gtr_f, cmp_geq_t, cmp_geq_f, Bool.not_eq_true', Bool.not_eq_false', Bool.and_eq_true, Bool.and_eq_false_iff, binDen, ctrR, Ctr.may, List.take_succ_cons, List.take_zero, Option.some.injEq, EV.u.injEq, repinT, repinObj, repinOk, cQPinAt, atEP, true_and, and_true, ne_eq, not_true_eq_false, not_false_eq_true, false_implies, true_implies, implies_true, List.append_assoc]
  obtain ⟨hp, _, _⟩ := hp
  rcases hl with rfl | rfl | rfl | rfl
  all_goals
    simp only [repinObj, e9, e1, e2, e3, Int.reduceEq, Int.reduceNeg, reduceIte, not_true_eq_false, not_false_eq_true, false_implies, true_implies, implies_true, and_true, true_and, ne_eq, false_or, or_false, true_or, or_true, false_and, and_false, and_self, Int.reduceBEq, beq_self_eq_true, cmpDen] at hp ⊢
    repeat' (first | with_reducible apply And.intro | intro _)
  all_goals first
    | omega
    | exact ⟨_, _, _, _, _, _, _, rfl, by omega, by omega, by omega⟩
    | (simp [*]; done)
    | (by_cases h : e = 0 <;> simp [h] <;> omega)
theorem vQNewUnp (P : Program) (hs : List (Nat × Nat × List Nat)) : ∀ ins, ins.length = cQNewUnp.nin → cQNewUnp.pre ins → tQNewUnp.sat { cx P [] with hints := hs } (ctrR cQNewUnp) ins := by
  rintro ins _ ⟨a, b, n, c, rfl⟩
  have e9 : rline 9 = -1 := rfl
  have e1 : rline 1 = 0 := rfl
  have ew : IntKind.i64.wrap (0 + 0) = 0 := rfl
  simp only [Tree.sat, Bx.den, Ex.den, Bnd.den, gI, gB, gL, gF, gN, gNil, List.map_cons, List.map_nil, List.cons_append, List.nil_append, List.getElem?_cons_zero, List.getElem?_cons_succ, List.getD, Option.getD_some, cmp_eql_t, cmp_eql_f, cmp_neq_t, cmp_neq_f, cmp_lss_t, cmp_lss_f, cmp_leq_t, cmp_leq_f, cmp_gtr_t, cmp_gtr_f, cmp_geq_t, cmp_geq_f, Bool.not_eq_true', Bool.not_eq_false', Bool.and_eq_true, Bool.and_eq_false_iff, binDen, ctrR, Ctr.may, List.take_succ_cons, List.take_zero, Option.some.injEq, EV.u.injEq, tQNewUnp, cx, objs, reunpT, reunpObj, reunpOk, cQNewUnp, newEU, e9, e1, ew, true_and, and_true, ne_eq, not_true_eq_false, not_false_eq_true, false_implies, true_implies, implies_true, List.append_assoc]
  repeat' (first | with_reducible apply And.intro | intro _)
  all_goals first
    | exact ⟨_, _, _, _, _, _, rfl, by omega⟩
    | (rw [if_pos (by omega)])
    | (rw [if_neg (by omega)])
set_option maxHeartbeats 2000000 in
theorem vQUnpStep (P : Program) (hs : List (Nat × Nat × List Nat)) : ∀ ins, ins.length = cQUnpStep.nin → cQUnpStep.pre ins → tQUnpStep.sat { cx P ctsQE with hints := hs } (ctrR cQUnpStep) ins := by
  rintro ins _ ⟨p, M, rfl, hp, hM⟩
  simp only [Tree.sat, Bx.den, Ex.den, Bnd.den, gI, gB, gL, gF, gN, gNil, List.map_cons, List.map_nil, List.cons_append, List.nil_append, List.getElem?_cons_zero, List.getElem?_cons_succ, List.getD, Option.getD_some, cmp_eql_t, cmp_eql_f, cmp_neq_t, cmp_neq_f, cmp_lss_t, cmp_lss_f, cmp_leq_t, cmp_leq_f, cmp_gtr_t, cmp_gtr_f, cmp_geq_t, cmp_geq_f, Bool.not_eq_true', Bool.not_eq_false', Bool.and_eq_true, Bool.and_eq_false_iff, binDen, ctrR, Ctr.may, List.take_succ_cons, List.take_zero, Option.some.injEq, EV.u.injEq, tQUnpStep, cx, ctsQE, objs]
  refine ⟨?_, nomore_reunp⟩
  rintro ps _ ⟨a, b, n, c, l, e, rfl, hl⟩ he
  injection he with he; subst he
  have e9 : rline 9 = -1 := rfl
  have e1 : rline 1 = 0 := rfl
  simp only [Tree.sat, Bx.den, Ex.den, Bnd.den, gI, gB, gL, gF, gN, gNil, List.map_cons, List.map_nil, List.cons_append, List.nil_append, List.getElem?_cons_zero, List.getElem?_cons_succ, List.getD, Option.getD_some, cmp_eql_t, cmp_eql_f, cmp_neq_t, cmp_neq_f, cmp_lss_t, cmp_lss_f, cmp_leq_t, cmp_leq_f, cmp_gtr_t, cmp_gtr_f, cmp_geq_t, cmp_geq_f, Bool.not_eq_true', Bool.not_eq_false', Bool.and_eq_true, Bool.and_eq_false_iff, binDen, ctrR, Ctr.may, List.take_succ_cons, List.take_zero, Option.some.injEq, EV.u.injEq, reunpT, reunpObj, reunpOk, cQUnpStep, stepEU, fo_store, true_and, and_true, ne_eq, not_true_eq_false, not_false_eq_true, false_implies, true_implies, implies_true, List.append_assoc]
  rcases hl with rfl | rfl
  all_goals
    simp only [EUnpSt.ok, reunpObj, e9, e1, Int.reduceEq, Int.reduceNeg, reduceIte, not_true_eq_false, not_false_eq_true, false_implies, true_implies, implies_true, and_true, true_and, ne_eq, false_or, or_false, true_or, or_true, false_and, and_false, and_self, Int.reduceBEq, beq_self_eq_true, cmpDen] at hp ⊢
    repeat' (first | with_reducible apply And.intro | intro _)
  all_goals first
    | omega
    | exact fl_store hM
    | exact ⟨_, _, _, _, _, _, rfl, by omega⟩
    | (simp [cmpDen, *]; done)
    | (simp [cmpDen, *]; omega)
set_option maxHeartbeats 1000000 in
theorem vQUnpErr (P : Program) (hs : List (Nat × Nat × List Nat)) : ∀ ins, ins.length = cQUnpErr.nin → cQUnpErr.pre ins → tQUnpErr.sat { cx P [] with hints := hs } (ctrR cQUnpErr) ins := by
  rintro ins _ ⟨p, rfl, hp⟩
  simp only [Tree.sat, Bx.den, Ex.den, Bnd.den, gI, gB, gL, gF, gN, gNil, List.map_cons, List.map_nil, List.cons_append, List.nil_append, List.getElem?_cons_zero, List.getElem?_cons_succ, List.getD, Option.getD_some, cmp_eql_t, cmp_eql_f, cmp_neq_t, cmp_neq_f, cmp_lss_t, cmp_lss_f, cmp_leq_t, cmp_leq_f, cmp_gtr_t, cmp_gtr_f, cmp_geq_t, cmp_geq_f, Bool.not_eq_true', Bool.not_eq_false', Bool.and_eq_true, Bool.and_eq_false_iff, binDen, ctrR, Ctr.may, List.take_succ_cons, List.take_zero, Option.some.injEq, EV.u.injEq, tQUnpErr, cx, objs]
  refine ⟨?_, nomore_reunp⟩
  rintro ps _ ⟨a, b, n, c, l, e, rfl, hl⟩ he
  injection he with he; subst he
  have e9 : rline 9 = -1 := rfl
  have e1 : rline 1 = 0 := rfl
  simp only [Tree.sat, Bx.den, Ex.den, Bnd.den, gI, gB, gL, gF, gN, gNil, List.map_cons, List.map_nil, List.cons_append, List.nil_append, List.getElem?_cons_zero, List.getElem?_cons_succ, List.getD, Option.getD_some, cmp_eql_t, cmp_eql_f, cmp_neq_t, cmp_neq_f, cmp_lss_t, cmp_lss_f, cmp_leq_t, cmp_leq_f, cmp_gtr_t, cmp_gtr_f, cmp_geq_t, cmp_geq_f, Bool.not_eq_true', Bool.not_eq_false', Bool.and_eq_true, Bool.and_eq_false_iff, binDen, ctrR, Ctr.may, List.take_succ_cons, List.take_zero, Option.some.injEq, EV.u.injEq, reunpT, reunpObj, reunpOk, cQUnpErr, errEU, true_and, and_true, ne_eq, not_true_eq_false, not_false_eq_true, false_implies, true_implies, implies_true, List.append_assoc]
  rcases hl with rfl | rfl
  all_goals
    simp only [e9, e1, Int.reduceEq, Int.reduceNeg, reduceIte, not_true_eq_false, not_false_eq_true, false_implies, true_implies, implies_true, and_true, true_and, ne_eq, false_or, or_false, true_or, or_true, false_and, and_false, and_self, Int.reduceBEq, beq_self_eq_true, cmpDen]
    repeat' (first | with_reducible apply And.intro | intro _)
  all_goals first
    | omega
    | exact ⟨_, _, _, _, _, _, rfl, by omega⟩
    | (simp [*]; done)
set_option maxHeartbeats 1000000 in
theorem vQNewAdv (P : Program) (hs : List (Nat × Nat × List Nat)) : ∀ ins, ins.length = cQNewAdv.nin → cQNewAdv.pre ins → tQNewAdv.sat { cx P [] with hints := hs } (ctrR cQNewAdv) ins := by
  rintro ins _ ⟨a, b, n, c, p, rfl⟩
  have e9 : rline 9 = -1 := rfl
  have e1 : rline 1 = 0 := rfl
  simp only [Tree.sat, Bx.den, Ex.den, Bnd.den, gI, gB, gL, gF, gN, gNil, List.map_cons, List.map_nil, List.cons_append, List.nil_append, List.getElem?_cons_zero, List.getElem?_cons_succ, List.getD, Option.getD_some, cmp_eql_t, cmp_eql_f, cmp_neq_t, cmp_neq_f, cmp_lss_t, cmp_lss_f, cmp_leq_t, cmp_leq_f, cmp_gtr_t, cmp_gtr_f, cmp_geq_t, cmp_geq_f, Bool.not_eq_true', Bool.not_eq_false', Bool.and_eq_true, Bool.and_eq_false_iff, binDen, ctrR, Ctr.may, List.take_succ_cons, List.take_zero, Option.some.injEq, EV.u.injEq, tQNewAdv, cx, objs, readvT, readvObj, readvOk, cQNewAdv, newEA, e9, e1, true_and, and_true, ne_eq, not_true_eq_false, not_false_eq_true, false_implies, true_implies, implies_true, List.append_assoc]
  repeat' (first | with_reducible apply And.intro | intro _)
  all_goals first
    | exact ⟨_, _, _, _, _, _, _, _, _, rfl, by omega, by omega⟩
    | (rw [if_pos (by omega)]; simp; done)
    | (rw [if_pos (by omega)]; simp; omega)
    | (rw [if_neg (by omega)]; simp; done)
    | (rw [if_neg (by omega)]; simp; omega)
set_option maxHeartbeats 1000000 in
theorem vQAdvErr (P : Program) (hs : List (Nat × Nat × List Nat)) : ∀ ins, ins.length = cQAdvErr.nin → cQAdvErr.pre ins → tQAdvErr.sat { cx P [] with hints := hs } (ctrR cQAdvErr) ins := by
  rintro ins _ ⟨p, rfl, hp⟩
  simp only [Tree.sat, Bx.den, Ex.den, Bnd.den, gI, gB, gL, gF, gN, gNil, List.map_cons, List.map_nil, List.cons_append, List.nil_append, List.getElem?_cons_zero, List.getElem?_cons_succ, List.getD, Option.getD_some, cmp_eql_t, cmp_eql_f, cmp_neq_t, cmp_neq_f, cmp_lss_t, cmp_lss_f, cmp_leq_t, cmp_leq_f, cmp_gtr_t, cmp_gtr_f, cmp_geq_t, cmp_geq_f, Bool.not_eq_true', Bool.not_eq_false', Bool.and_eq_true, Bool.and_eq_false_iff, binDen, ctrR, Ctr.may, List.take_succ_cons, List.take_zero, Option.some.injEq, EV.u.injEq, tQAdvErr, cx, objs]
  refine ⟨?_, nomore_readv⟩
  rintro ps _ ⟨a, b, n, c, p, l, w, k, e, rfl, hl, hk⟩ he
  injection he with he; subst he
  have e9 : rline 9 = -1 := rfl
  have e1 : rline 1 = 0 := rfl
  have e2 : rline 2 = 1 := rfl
  have e3 : rline 3 = 2 := rfl
  simp only [Tree.sat, Bx.den, Ex.den, Bnd.den, gI, gB, gL, gF, gN, gNil, List.map_cons, List.map_nil, List.cons_append, List.nil_append, List.getElem?_cons_zero, List.getElem?_cons_succ, List.getD, Option.getD_some, cmp_eql_t, cmp_eql_f, cmp_neq_t, cmp_neq_f, cmp_lss_t, cmp_lss_f, cmp_leq_t, cmp_leq_f, cmp_gtr_t, cmp_gtr_f, cmp_geq_t, cmp_geq_f, Bool.not_eq_true', Bool.not_eq_false', Bool.and_eq_true, Bool.and_eq_false_iff, binDen, ctrR, Ctr.may, List.take_succ_cons, List.take_zero, Option.some.injEq, EV.u.injEq, readvT, readvObj, readvOk, cQAdvErr, errEA, true_and, and_true, ne_eq, not_true_eq_false, not_false_eq_true, false_implies, true_implies, implies_true, List.append_assoc]
  have hl3 : l = 1 ∨ l = 2 ∨ l = 3 ∨ l = 9 := by omega
  rcases hl3 with rfl | rfl | rfl | rfl
  all_goals
    simp only [e9, e1, e2, e3, Int.reduceEq, Int.reduceNeg, reduceIte, not_true_eq_false, not_false_eq_true, false_implies, true_implies, implies_true, and_true, true_and, ne_eq, false_or, or_false, true_or, or_true, false_and, and_false, and_self, Int.reduceBEq, beq_self_eq_true, cmpDen]
    repeat' (first | with_reducible apply And.intro | intro _)
  all_goals first
    | omega
    | exact ⟨_, _, _, _, _, _, _, _, _, rfl, by omega, by omega⟩
    | (simp [*]; done)
set_option maxHeartbeats 4000000 in
theorem vQAdvStep (P : Program) (hs : List (Nat × Nat × List Nat)) : ∀ ins, ins.length = cQAdvStep.nin → cQAdvStep.pre ins → tQAdvStep.sat { cx P ctsQE with hints := hs } (ctrR cQAdvStep) ins := by
  rintro ins _ ⟨p, M, rfl, hp, hM⟩
  simp only [Tree.sat, Bx.den, Ex.den, Bnd.den, gI, gB, gL, gF, gN, gNil, List.map_cons, List.map_nil, List.cons_append, List.nil_append, List.getElem?_cons_zero, List.getElem?_cons_succ, List.getD, Option.getD_some, cmp_eql_t, cmp_eql_f, cmp_neq_t, cmp_neq_f, cmp_lss_t, cmp_lss_f, cmp_leq_t, cmp_leq_f, cmp_gtr_t, cmp_gtr_f, cmp_geq_t, cmp_geq_f, Bool.not_eq_true', Bool.not_eq_false', Bool.and_eq_true, Bool.and_eq_false_iff, binDen, ctrR, Ctr.may, List.take_succ_cons, List.take_zero, Option.some.injEq, EV.u.injEq, tQAdvStep, cx, ctsQE, objs]
  refine ⟨?_, nomore_readv⟩
  rintro ps _ ⟨a, b, n, c, p, l, w, k, e, rfl, hl, hk⟩ he
  injection he with he; subst he
  have e9 : rline 9 = -1 := rfl
  have e1 : rline 1 = 0 := rfl
  have e2 : rline 2 = 1 := rfl
  have e3 : rline 3 = 2 := rfl
  have hn : ∀ x, 0 ≤ (M.load x).n := fun x => (n_load hM x).1
  obtain ⟨g1, g2, g3⟩ := hp
  simp only [readvObj] at g1 g2 g3
  simp only [Tree.sat, Bx.den, Ex.den, Bnd.den, gI, gB, gL, gF, gN, gNil, List.map_cons, List.map_nil, List.cons_append, List.nil_append, List.getElem?_cons_zero, List.getElem?_cons_succ, List.getD, Option.getD_some, cmp_eql_t, cmp_eql_f, cmp_neq_t, cmp_neq_f, cmp_lss_t, cmp_lss_f, cmp_leq_t, cmp_leq_f, cmp_gtr_t, cmp_gtr_f, cmp_geq_t, cmp_geq_f, Bool.not_eq_true', Bool.not_eq_false', Bool.and_eq_true, Bool.and_eq_false_iff, binDen, ctrR, Ctr.may, List.take_succ_cons, List.take_zero, Option.some.injEq, EV.u.injEq, readvT, readvObj, readvOk, cQAdvStep, stepEA, fo_load, fo_cas, tmod_u32 (hn _), true_and, and_true, ne_eq, not_true_eq_false, not_false_eq_true, false_implies, true_implies, implies_true, List.append_assoc]
  have hl3 : l = 1 ∨ l = 2 ∨ l = 3 ∨ l = 9 := by omega
  simp only [u32] at g1 g2 g3 ⊢
  rcases hl3 with rfl | rfl | rfl | rfl
  · have hk0 : k = 0 := by omega
    subst hk0
    have e01 : IntKind.i64.wrap (0 + 1) = 1 := rfl
    simp only [e9, e1, e2, e3, e01, Int.reduceEq, Int.reduceNeg, reduceIte, not_true_eq_false, not_false_eq_true, false_implies, true_implies, implies_true, and_true, true_and, ne_eq, false_or, or_false, true_or, or_true, false_and, and_false, and_self, Int.reduceBEq, beq_self_eq_true, cmpDen] at g1 g2 g3 ⊢
    obtain ⟨g4, g5, g6, g7⟩ := g3
    subst g4
    rcases turn_case 0 c with ⟨rfl, ht⟩ | ⟨h, ht⟩
    all_goals
      repeat' (first | with_reducible apply And.intro | intro _)
    all_goals first
      | omega
      | exact fl_load hM
      | exact ⟨_, _, _, _, _, _, _, _, _, rfl, by omega, by omega⟩
      | (simp [turnA, endA, ht, *]; done)
      | (have h9 : turnTo 0 0 < n := by omega
         simp only [turnA, endA, if_pos h9]
         simp [ht, *]; done)
      | (have h9 : ¬ turnTo 0 0 < n := by omega
         simp only [turnA, endA, if_neg h9]
         simp [ht, *]; done)
      | (have h9 : turnTo 0 c < n := by omega
         simp only [turnA, endA, if_pos h9]
         simp [ht, *]; done)
      | (have h9 : ¬ turnTo 0 c < n := by omega
         simp only [turnA, endA, if_neg h9]
         simp [ht, *]; done)
  · obtain ⟨hk1, hk2⟩ := hk rfl
    simp only [e9, e1, e2, e3, Int.reduceEq, Int.reduceNeg, reduceIte, not_true_eq_false, not_false_eq_true, false_implies, true_implies, implies_true, and_true, true_and, ne_eq, false_or, or_false, true_or, or_true, false_and, and_false, and_self, Int.reduceBEq, beq_self_eq_true, cmpDen] at g1 g2 g3 ⊢
    obtain ⟨g4, g5, g6, g7⟩ := g3
    subst g4
    have hw0 := wrap32_lo w
    have hw1 := wrap32_hi w
    have hp : p = IntKind.u32.wrap w := by omega
    subst hp
    rw [wrap_small (n := k + 1) (by omega) (by omega), wrap_small (n := k + 1 + 1) (by omega) (by omega), conv_u64, wrap_u64' (n := IntKind.u32.wrap w + 1) (by omega) (by omega)]
    rcases turn_case (k + 1) c with ⟨rfl, ht⟩ | ⟨h, ht⟩
    all_goals
      repeat' (first | with_reducible apply And.intro | intro _)
    all_goals first
      | omega
      | exact fl_load hM
      | exact ⟨_, _, _, _, _, _, _, _, _, rfl, by omega, by omega⟩
      | (simp [turnA, endA, ht, *]; done)
      | (have h9 : turnTo (k + 1) (k + 1) < n := by omega
         simp only [turnA, endA, if_pos h9]
         simp [ht, *]; done)
      | (have h9 : ¬ turnTo (k + 1) (k + 1) < n := by omega
         simp only [turnA, endA, if_neg h9]
         simp [ht, *]; done)
      | (have h9 : turnTo (k + 1) c < n := by omega
         simp only [turnA, endA, if_pos h9]
         simp [ht, *]; done)
      | (have h9 : ¬ turnTo (k + 1) c < n := by omega
         simp only [turnA, endA, if_neg h9]
         simp [ht, *]; done)
  · simp only [e9, e1, e2, e3, Int.reduceEq, Int.reduceNeg, reduceIte, not_true_eq_false, not_false_eq_true, false_implies, true_implies, implies_true, and_true, true_and, ne_eq, false_or, or_false, true_or, or_true, false_and, and_false, and_self, Int.reduceBEq, beq_self_eq_true, cmpDen] at g1 g2 g3 ⊢
    obtain ⟨g4, g5, g6, g7⟩ := g3
    subst g4
    have hw0 := wrap32_lo w
    have hw1 := wrap32_hi w
    have hp : p = IntKind.u32.wrap w := by omega
    subst hp
    rw [conv_u64, wrap_u64' (n := IntKind.u32.wrap w + 1) (by omega) (by omega)]
    repeat' (first | with_reducible apply And.intro | intro _)
    all_goals first
      | omega
      | exact fl_cas hM
      | exact ⟨_, _, _, _, _, _, _, _, _, rfl, by omega, by omega⟩
      | (simp [endA, *]; done)
  · simp only [e9, e1, e2, e3, Int.reduceEq, Int.reduceNeg, reduceIte, not_true_eq_false, not_false_eq_true, false_implies, true_implies, implies_true, and_true, true_and, ne_eq, false_or, or_false, true_or, or_true, false_and, and_false, and_self, Int.reduceBEq, beq_self_eq_true, cmpDen] at g1 g2 g3 ⊢
    exact ⟨_, _, _, _, _, _, _, _, _, rfl, by omega, by omega⟩
theorem hQEFits : cQEFits.Holds objs Try.prog := runCtr_holds (X := { cx Try.prog [] with hints := hsQEFits }) objsOk mixed noCts (callable _ Try.func68 (by kernel_rfl) (by kernel_rfl)) (by rintro ins _ ⟨_, _, _, _, rfl⟩; rfl) (by rw [rQEFits]; exact vQEFits _ _)
theorem hQEFill : cQEFill.Holds objs Try.prog := runCtr_holds (X := { cxQE Try.prog lQEFill with hints := hsQEFill }) objsOk mixed hctsQE (callable _ Try.func106 (by kernel_rfl) (by kernel_rfl)) (by rintro ins _ ⟨_, _, _, _, rfl, _⟩; rfl) (by rw [rQEFill]; exact vQEFill _ _)
theorem hQENow : cQENow.Holds objs Try.prog := runCtr_holds (X := { cx Try.prog ctsQE with hints := hsQENow }) objsOk mixed hctsQE (callable _ Try.func74 (by kernel_rfl) (by kernel_rfl)) (by rintro ins _ ⟨_, _, _, _, rfl, _⟩; rfl) (by rw [rQENow]; exact vQENow _ _)
theorem hQEPinned : cQEPinned.Holds objs Try.prog := runCtr_holdsm (X := { cxQE Try.prog lQEPinned with hints := hsQEPinned }) objsOk mixed hctsQE (callable _ Try.func75 (by kernel_rfl) (by kernel_rfl)) (by rintro ins outs _ ⟨_, _, _, _, rfl, _⟩ ⟨c, rfl⟩; rfl) (by rw [rQEPinned]; exact vQEPinned _ _)
theorem hQNewPin : cQNewPin.Holds objs Try.prog := runCtr_holds (X := { cx Try.prog [] with hints := hsQNewPin }) objsOk mixed noCts (callable _ Try.func107 (by kernel_rfl) (by kernel_rfl)) (by rintro ins _ ⟨_, _, _, _, rfl⟩; rfl) (by rw [rQNewPin]; exact vQNewPin _ _)
theorem hQPinStep : cQPinStep.Holds objs Try.prog := runCtr_holds (X := { cx Try.prog ctsQE with hints := hsQPinStep }) objsOk mixed hctsQE (callable _ Try.func110 (by kernel_rfl) (by kernel_rfl)) (by rintro ins _ ⟨_, _, rfl, _⟩; rfl) (by rw [rQPinStep]; exact vQPinStep _ _)
theorem hQPinAt : cQPinAt.Holds objs Try.prog := runCtr_holds (X := { cx Try.prog [] with hints := hsQPinAt }) objsOk mixed noCts (callable _ Try.func111 (by kernel_rfl) (by kernel_rfl)) (by rintro ins _ ⟨_, rfl, _⟩; rfl) (by rw [rQPinAt]; exact vQPinAt _ _)
theorem hQNewUnp : cQNewUnp.Holds objs Try.prog := runCtr_holds (X := { cx Try.prog [] with hints := hsQNewUnp }) objsOk mixed noCts (callable _ Try.func108 (by kernel_rfl) (by kernel_rfl)) (by rintro ins _ ⟨_, _, _, _, rfl⟩; rfl) (by rw [rQNewUnp]; exact vQNewUnp _ _)
theorem hQUnpStep : cQUnpStep.Holds objs Try.prog := runCtr_holds (X := { cx Try.prog ctsQE with hints := hsQUnpStep }) objsOk mixed hctsQE (callable _ Try.func112 (by kernel_rfl) (by kernel_rfl)) (by rintro ins _ ⟨_, _, rfl, _⟩; rfl) (by rw [rQUnpStep]; exact vQUnpStep _ _)
theorem hQUnpErr : cQUnpErr.Holds objs Try.prog := runCtr_holds (X := { cx Try.prog [] with hints := hsQUnpErr }) objsOk mixed noCts (callable _ Try.func113 (by kernel_rfl) (by kernel_rfl)) (by rintro ins _ ⟨_, rfl, _⟩; rfl) (by rw [rQUnpErr]; exact vQUnpErr _ _)
theorem hQNewAdv : cQNewAdv.Holds objs Try.prog := runCtr_holds (X := { cx Try.prog [] with hints := hsQNewAdv }) objsOk mixed noCts (callable _ Try.func109 (by kernel_rfl) (by kernel_rfl)) (by rintro ins _ ⟨_, _, _, _, _, rfl⟩; rfl) (by rw [rQNewAdv]; exact vQNewAdv _ _)
theorem hQAdvErr : cQAdvErr.Holds objs Try.prog := runCtr_holds (X := { cx Try.prog [] with hints := hsQAdvErr }) objsOk mixed noCts (callable _ Try.func115 (by kernel_rfl) (by kernel_rfl)) (by rintro ins _ ⟨_, rfl, _⟩; rfl) (by rw [rQAdvErr]; exact vQAdvErr _ _)
theorem hQAdvStep : cQAdvStep.Holds objs Try.prog := runCtr_holds (X := { cx Try.prog ctsQE with hints := hsQAdvStep }) objsOk mixed hctsQE (callable _ Try.func114 (by kernel_rfl) (by kernel_rfl)) (by rintro ins _ ⟨_, _, rfl, _⟩; rfl) (by rw [rQAdvStep]; exact vQAdvStep _ _)
end Go.Proofs.Ytjohihkbampbgaa
