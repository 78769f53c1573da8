/- The document's stacks: the contracts hold. -/
import Derived.Test.YtdabdbbgaekmdaaKqT
namespace Go.Proofs.Ytdabdbbgaekmdaa
set_option linter.unusedVariables false
set_option linter.unusedSimpArgs false
set_option linter.unusedSectionVars false
open Go Go.RowKit

theorem nomore_rpop {M : PopSt} : ∀ (t : Nat) (T : ObjT U) (ps : List (EV U)), objs[t]? = some T → t ∉ [11] → ps.length = T.nv → T.ok ps → some (EV.u (U.rpop M)) ≠ some (EV.u (T.obj ps)) :=
  nomore_kind (by show ∀ t, t < 27 → t ∉ [11] → kinds.getD t 0 ≠ 8; decide)
theorem nomore_rpush {M : PushSt} : ∀ (t : Nat) (T : ObjT U) (ps : List (EV U)), objs[t]? = some T → t ∉ [18] → ps.length = T.nv → T.ok ps → some (EV.u (U.rpush M)) ≠ some (EV.u (T.obj ps)) :=
  nomore_kind (by show ∀ t, t < 27 → t ∉ [18] → kinds.getD t 0 ≠ 12; decide)
theorem nomore_rall {M : AllSt} : ∀ (t : Nat) (T : ObjT U) (ps : List (EV U)), objs[t]? = some T → t ∉ [25] → ps.length = T.nv → T.ok ps → some (EV.u (U.rall M)) ≠ some (EV.u (T.obj ps)) :=
  nomore_kind (by show ∀ t, t < 27 → t ∉ [25] → kinds.getD t 0 ≠ 16; decide)
theorem u64_small {n : Int} (h : 0 ≤ n) (h' : n < 18446744073709551616) : IntKind.u64.wrap n = n := by simp [IntKind.wrap, IntKind.signed, IntKind.bits]; omega
theorem i64_pred (x : Int) : IntKind.i64.wrap (IntKind.i64.wrap x - 1) = IntKind.i64.wrap (x - 1) := by simp only [IntKind.wrap, IntKind.signed, IntKind.bits]; simp; omega
theorem tmod16 {w : Int} (h : isW w) : IntKind.i64.wrap (w.tmod 65536) = w % 65536 := by
  rw [Int.tmod_eq_emod_of_nonneg h.1]; exact wrap_small (by omega) (by omega)
theorem low16 {w : Int} : IntKind.i64.wrap (w % 65536 - 1) = w % 65536 - 1 := wrap_small (by omega) (by omega)

set_option maxHeartbeats 1000000 in
theorem vQSFits (P : Program) (hs : List (Nat × Nat × List Nat)) : ∀ ins, ins.length = cQSFits.nin → cQSFits.pre ins → tQSFits.sat { cx P [] with hints := hs } (ctrR cQSFits) ins := by
  rintro ins _ ⟨a, b, n, s, rfl⟩
  simp only [Tree.sat, Bx.den, Ex.den, Bnd.den, gI, gB, gL, gF, gN, gNil, List.map_cons, List.map_nil, List.cons_append, List.nil_append, List.getElem?_cons_zero, List.getElem?_cons_succ, List.getD, Option.getD_some, cmp_eql_t, cmp_eql_f, cmp_neq_t, cmp_neq_f, cmp_lss_t, cmp_lss_f, cmp_leq_t, cmp_leq_f, cmp_gtr_t, cmp_gtr_f, cmp_geq_t, cmp_geq_f, Bool.not_eq_true', Bool.not_eq_false', Bool.and_eq_true, Bool.and_eq_false_iff, binDen, ctrR, Ctr.may, List.take_succ_cons, List.take_zero, Option.some.injEq, EV.u.injEq, tQSFits, cx, cQSFits, fitsS, true_and, and_true, ne_eq, not_true_eq_false, not_false_eq_true, false_implies, true_implies, implies_true, List.append_assoc]
  repeat' (first | with_reducible apply And.intro | intro _)
  all_goals first
    | omega
    | (rw [if_pos (by omega)])
    | (rw [if_neg (by omega), if_pos (by omega)])
    | (rw [if_neg (by omega), if_neg (by omega)])
theorem hQSFits : cQSFits.Holds objs Try.prog := runCtr_holds (X := { cx Try.prog [] with hints := hsQSFits }) objsOk mixed noCts (callable _ Try.func38 (by kernel_rfl) (by kernel_rfl)) (by rintro ins _ ⟨_, _, _, _, rfl⟩; rfl) (by rw [rQSFits]; exact vQSFits _ _)
theorem vQIdx (P : Program) (hs : List (Nat × Nat × List Nat)) : ∀ ins, ins.length = cQIdx.nin → cQIdx.pre ins → tQIdx.sat { cx P [] with hints := hs } (ctrR cQIdx) ins := by
  rintro ins _ ⟨a, b, n, w, rfl, hw⟩
  simp only [Tree.sat, Bx.den, Ex.den, Bnd.den, gI, gB, gL, gF, gN, gNil, List.map_cons, List.map_nil, List.cons_append, List.nil_append, List.getElem?_cons_zero, List.getElem?_cons_succ, List.getD, Option.getD_some, cmp_eql_t, cmp_eql_f, cmp_neq_t, cmp_neq_f, cmp_lss_t, cmp_lss_f, cmp_leq_t, cmp_leq_f, cmp_gtr_t, cmp_gtr_f, cmp_geq_t, cmp_geq_f, Bool.not_eq_true', Bool.not_eq_false', Bool.and_eq_true, Bool.and_eq_false_iff, binDen, ctrR, Ctr.may, List.take_succ_cons, List.take_zero, Option.some.injEq, EV.u.injEq, tQIdx, cx, cQIdx, idxW, tmod16 hw, low16, true_and, and_true, ne_eq, not_true_eq_false, not_false_eq_true, false_implies, true_implies, implies_true, List.append_assoc]
  repeat' (first | with_reducible apply And.intro | intro _)
  all_goals first
    | omega
    | (rw [if_pos (by omega)])
    | (rw [if_neg (by omega)])
theorem hQIdx : cQIdx.Holds objs Try.prog := runCtr_holds (X := { cx Try.prog [] with hints := hsQIdx }) objsOk mixed noCts (callable _ Try.func96 (by kernel_rfl) (by kernel_rfl)) (by rintro ins _ ⟨_, _, _, _, rfl, _⟩; rfl) (by rw [rQIdx]; exact vQIdx _ _)
theorem topQ {i w : Int} (h : -1 ≤ i) (h1 : i ≤ 65534) (hw : isW w) : bits .or .u64 (IntKind.u64.wrap (IntKind.i64.wrap (i + 1))) (binDen .shl .u64 (IntKind.u64.wrap (binDen .shr .u64 w 16 + 1)) 16) = topW i w := by
  obtain ⟨h2, h3⟩ := hw
  rw [shr_16, wrap_small (n := i + 1) (by omega) (by omega), u64_small (n := i + 1) (by omega) (by omega), u64_small (n := w / 65536 + 1) (by omega) (by omega)]
  have e : binDen .shl .u64 (w / 65536 + 1) 16 = (w / 65536 + 1) % 281474976710656 * 65536 := by
    show IntKind.u64.wrap ((w / 65536 + 1) * 2 ^ min (Int.toNat 16) IntKind.u64.bits) = _
    have e2 : (2 : Int) ^ min (Int.toNat 16) IntKind.u64.bits = 65536 := by decide
    rw [e2]
    simp [IntKind.wrap, IntKind.signed, IntKind.bits]
    omega
  rw [e, or_16 (by omega) (by omega) (by omega) (by omega)]
  rfl
theorem vQTop (P : Program) (hs : List (Nat × Nat × List Nat)) : ∀ ins, ins.length = cQTop.nin → cQTop.pre ins → tQTop.sat { cx P [] with hints := hs } (ctrR cQTop) ins := by
  rintro ins _ ⟨i, w, rfl, h, h1, hw⟩
  refine st_ret rfl ?_
  exact congrArg (fun x => [EV.i x]) (topQ h h1 hw)
theorem hQTop : cQTop.Holds objs Try.prog := runCtr_holds (X := { cx Try.prog [] with hints := hsQTop }) objsOk mixed noCts (callable _ Try.func129 (by kernel_rfl) (by kernel_rfl)) (by rintro ins _ ⟨_, _, rfl, _⟩; rfl) (by rw [rQTop]; exact vQTop _ _)
theorem hctsKQ : ∀ (ci : Nat) (c : Ctr U), ctsKQ[ci]? = some c → c.Holds objs Try.prog := by
  intro ci c h
  match ci, h with
  | 0, h => cases h; exact hQLoad
  | 1, h => cases h; exact hQStore
  | 2, h => cases h; exact hQCAS
  | 3, h => cases h; exact hQAt
  | 4, h => cases h; exact hQIdx
  | 5, h => cases h; exact hQTop
  | n + 6, h => cases h
theorem out_qidx (a b n w : Int) : cQIdx.out [.i a, .i b, .i n, .i w] = [.i (idxW n w)] := rfl
theorem out_qtop (i w : Int) : cQTop.out [.i i, .i w] = [.i (topW i w)] := rfl
theorem fine_fillK {M : MemSt} (h : M.fine) (t l s : Int) : ∀ k, k ≤ 4096 → (fillK M t l s k).fine
  | 0, _ => fine_store h ⟨by decide, by decide⟩
  | k + 1, hk => fine_store (fine_fillK h t l s k (by omega)) (by split <;> exact ⟨by omega, by omega⟩)

/-! ### Fill -/
set_option maxHeartbeats 1000000 in
theorem vQSFill (P : Program) (hs : List (Nat × Nat × List Nat)) : ∀ ins, ins.length = cQSFill.nin → cQSFill.pre ins → tQSFill.sat { cxKQ P lQSFill with hints := hs } (ctrR cQSFill) ins := by
  have hb : ∀ env, qsFillInv env → tQSFillL0.sat { cxKQ P lQSFill with hints := hs } (ctrR cQSFill) env := by
    rintro env ⟨M, a, b, n, x0, i, rfl, h1, h2, h4, h5⟩
    have e0 : IntKind.i64.wrap (i + 1) = i + 1 := wrap_small (by omega) (by omega)
    have e1 : IntKind.i64.wrap (i + 2) = i + 2 := wrap_small (by omega) (by omega)
    have e2 : IntKind.u64.wrap (i + 2) = i + 2 := u64_small (by omega) (by omega)
    have e3 : IntKind.i64.wrap (n - 1) = n - 1 := wrap_small (by omega) (by omega)
    have hf : (fillK M a b n i.toNat).fine := fine_fillK h5 _ _ _ _ (by omega)
    unfold tQSFillL0
    repeat' (first
      | (first
        | (with_reducible refine st_need ?_ ?_
           focus (simp only [Bx.den, Ex.den, Bnd.den, gI, gB, gL, gF, gN, gNil, List.map_cons, List.map_nil, List.cons_append, List.nil_append, List.getElem?_cons_zero, List.getElem?_cons_succ, List.getD, Option.getD_some, cmp_eql_t, cmp_eql_f, cmp_neq_t, cmp_neq_f, cmp_lss_t, cmp_lss_f, cmp_leq_t, cmp_leq_f, cmp_gtr_t, cmp_gtr_f, cmp_geq_t, cmp_geq_f, Bool.not_eq_true', Bool.not_eq_false', Bool.and_eq_true, Bool.and_eq_false_iff, binDen, Option.some.injEq, EV.u.injEq, Nil.isNil, beq_self_eq_true, and_self, true_and, and_true, or_false, false_or, or_self, not_true_eq_false, not_false_eq_true, ne_eq, Bool.true_eq_false, Bool.false_eq_true, reduceCtorEq, e0, e1, e2, e3, i64_pred] <;> first | omega | assumption))
        | (with_reducible refine st_and ?_ ?_)
        | (with_reducible exact st_ok)
        | (with_reducible refine st_br (fun hc => ?_) (fun hc => ?_) <;> (simp only [Bx.den, Ex.den, Bnd.den, gI, gB, gL, gF, gN, gNil, List.map_cons, List.map_nil, List.cons_append, List.nil_append, List.getElem?_cons_zero, List.getElem?_cons_succ, List.getD, Option.getD_some, cmp_eql_t, cmp_eql_f, cmp_neq_t, cmp_neq_f, cmp_lss_t, cmp_lss_f, cmp_leq_t, cmp_leq_f, cmp_gtr_t, cmp_gtr_f, cmp_geq_t, cmp_geq_f, Bool.not_eq_true', Bool.not_eq_false', Bool.and_eq_true, Bool.and_eq_false_iff, binDen, Option.some.injEq, EV.u.injEq, Nil.isNil, beq_self_eq_true, and_self, true_and, and_true, or_false, false_or, or_self, not_true_eq_false, not_false_eq_true, ne_eq, Bool.true_eq_false, Bool.false_eq_true, reduceCtorEq, e0, e1, e2, e3, i64_pred] at hc) <;> (try (exfalso; first | contradiction | omega)))
        | (refine st_call (by rfl) (by simp only [Bx.den, Ex.den, Bnd.den, gI, gB, gL, gF, gN, gNil, List.map_cons, List.map_nil, List.cons_append, List.nil_append, List.getElem?_cons_zero, List.getElem?_cons_succ, List.getD, Option.getD_some, cmp_eql_t, cmp_eql_f, cmp_neq_t, cmp_neq_f, cmp_lss_t, cmp_lss_f, cmp_leq_t, cmp_leq_f, cmp_gtr_t, cmp_gtr_f, cmp_geq_t, cmp_geq_f, Bool.not_eq_true', Bool.not_eq_false', Bool.and_eq_true, Bool.and_eq_false_iff, binDen, Option.some.injEq, EV.u.injEq, Nil.isNil, beq_self_eq_true, and_self, true_and, and_true, or_false, false_or, or_self, not_true_eq_false, not_false_eq_true, ne_eq, Bool.true_eq_false, Bool.false_eq_true, reduceCtorEq, e0, e1, e2, e3, i64_pred] <;> rfl) ?_ (by simp only [fo_store] <;> rfl) (by simp only [List.cons_append, List.nil_append] <;> rfl) ?_
           focus (first | exact fl_store hf))
        | (with_reducible refine st_ret (by simp only [Bx.den, Ex.den, Bnd.den, gI, gB, gL, gF, gN, gNil, List.map_cons, List.map_nil, List.cons_append, List.nil_append, List.getElem?_cons_zero, List.getElem?_cons_succ, List.getD, Option.getD_some, cmp_eql_t, cmp_eql_f, cmp_neq_t, cmp_neq_f, cmp_lss_t, cmp_lss_f, cmp_leq_t, cmp_leq_f, cmp_gtr_t, cmp_gtr_f, cmp_geq_t, cmp_geq_f, Bool.not_eq_true', Bool.not_eq_false', Bool.and_eq_true, Bool.and_eq_false_iff, binDen, Option.some.injEq, EV.u.injEq, Nil.isNil, beq_self_eq_true, and_self, true_and, and_true, or_false, false_or, or_self, not_true_eq_false, not_false_eq_true, ne_eq, Bool.true_eq_false, Bool.false_eq_true, reduceCtorEq, e0, e1, e2, e3, i64_pred] <;> rfl) ?_
           (first | rfl | exact ⟨_, rfl⟩)))
      | (refine st_back (by rfl) (by simp only [Bx.den, Ex.den, Bnd.den, gI, gB, gL, gF, gN, gNil, List.map_cons, List.map_nil, List.cons_append, List.nil_append, List.getElem?_cons_zero, List.getElem?_cons_succ, List.getD, Option.getD_some, cmp_eql_t, cmp_eql_f, cmp_neq_t, cmp_neq_f, cmp_lss_t, cmp_lss_f, cmp_leq_t, cmp_leq_f, cmp_gtr_t, cmp_gtr_f, cmp_geq_t, cmp_geq_f, Bool.not_eq_true', Bool.not_eq_false', Bool.and_eq_true, Bool.and_eq_false_iff, binDen, Option.some.injEq, EV.u.injEq, Nil.isNil, beq_self_eq_true, and_self, true_and, and_true, or_false, false_or, or_self, not_true_eq_false, not_false_eq_true, ne_eq, Bool.true_eq_false, Bool.false_eq_true, reduceCtorEq, e0, e1, e2, e3, i64_pred] <;> rfl) (by simp only [List.take_succ_cons, List.take_zero] <;> rfl) (by rfl) ?_ ?_
         focus (refine ⟨M, a, b, n, x0, i + 1, ?_, by omega, by omega, h4, h5⟩
                rw [fillK_succ _ _ _ _ h1, if_neg (by omega)]; rfl)
         focus (show (n - (i + 1)).toNat < (n - i).toNat; omega))
      | (refine st_ret (by simp only [Bx.den, Ex.den, Bnd.den, gI, gB, gL, gF, gN, gNil, List.map_cons, List.map_nil, List.cons_append, List.nil_append, List.getElem?_cons_zero, List.getElem?_cons_succ, List.getD, Option.getD_some, cmp_eql_t, cmp_eql_f, cmp_neq_t, cmp_neq_f, cmp_lss_t, cmp_lss_f, cmp_leq_t, cmp_leq_f, cmp_gtr_t, cmp_gtr_f, cmp_geq_t, cmp_geq_f, Bool.not_eq_true', Bool.not_eq_false', Bool.and_eq_true, Bool.and_eq_false_iff, binDen, Option.some.injEq, EV.u.injEq, Nil.isNil, beq_self_eq_true, and_self, true_and, and_true, or_false, false_or, or_self, not_true_eq_false, not_false_eq_true, ne_eq, Bool.true_eq_false, Bool.false_eq_true, reduceCtorEq, e0] <;> rfl) ?_
         have hi : n = i + 1 := by omega
         subst hi
         show _ = [EV.u (U.rmem (fillSt M a b (i + 1)))]
         rw [fillSt, if_pos ⟨by omega, h4⟩, fillK_succ _ _ _ _ h1, if_pos rfl, show b + (i + 1) - 1 = b + i by omega])
      | fail "no step")
  rintro ins _ ⟨M, a, b, n, rfl, h5⟩
  unfold tQSFill
  repeat' (first
    | (first
      | (with_reducible refine st_need ?_ ?_
         focus (simp only [Bx.den, Ex.den, Bnd.den, gI, gB, gL, gF, gN, gNil, List.map_cons, List.map_nil, List.cons_append, List.nil_append, List.getElem?_cons_zero, List.getElem?_cons_succ, List.getD, Option.getD_some, cmp_eql_t, cmp_eql_f, cmp_neq_t, cmp_neq_f, cmp_lss_t, cmp_lss_f, cmp_leq_t, cmp_leq_f, cmp_gtr_t, cmp_gtr_f, cmp_geq_t, cmp_geq_f, Bool.not_eq_true', Bool.not_eq_false', Bool.and_eq_true, Bool.and_eq_false_iff, binDen, Option.some.injEq, EV.u.injEq, Nil.isNil, beq_self_eq_true, and_self, true_and, and_true, or_false, false_or, or_self, not_true_eq_false, not_false_eq_true, ne_eq, Bool.true_eq_false, Bool.false_eq_true, reduceCtorEq, hb] <;> first | omega | assumption))
      | (with_reducible refine st_and ?_ ?_)
      | (with_reducible exact st_ok)
      | (with_reducible refine st_br (fun hc => ?_) (fun hc => ?_) <;> (simp only [Bx.den, Ex.den, Bnd.den, gI, gB, gL, gF, gN, gNil, List.map_cons, List.map_nil, List.cons_append, List.nil_append, List.getElem?_cons_zero, List.getElem?_cons_succ, List.getD, Option.getD_some, cmp_eql_t, cmp_eql_f, cmp_neq_t, cmp_neq_f, cmp_lss_t, cmp_lss_f, cmp_leq_t, cmp_leq_f, cmp_gtr_t, cmp_gtr_f, cmp_geq_t, cmp_geq_f, Bool.not_eq_true', Bool.not_eq_false', Bool.and_eq_true, Bool.and_eq_false_iff, binDen, Option.some.injEq, EV.u.injEq, Nil.isNil, beq_self_eq_true, and_self, true_and, and_true, or_false, false_or, or_self, not_true_eq_false, not_false_eq_true, ne_eq, Bool.true_eq_false, Bool.false_eq_true, reduceCtorEq, hb] at hc) <;> (try (exfalso; first | contradiction | omega)))
      | (refine st_call (by rfl) (by simp only [Bx.den, Ex.den, Bnd.den, gI, gB, gL, gF, gN, gNil, List.map_cons, List.map_nil, List.cons_append, List.nil_append, List.getElem?_cons_zero, List.getElem?_cons_succ, List.getD, Option.getD_some, cmp_eql_t, cmp_eql_f, cmp_neq_t, cmp_neq_f, cmp_lss_t, cmp_lss_f, cmp_leq_t, cmp_leq_f, cmp_gtr_t, cmp_gtr_f, cmp_geq_t, cmp_geq_f, Bool.not_eq_true', Bool.not_eq_false', Bool.and_eq_true, Bool.and_eq_false_iff, binDen, Option.some.injEq, EV.u.injEq, Nil.isNil, beq_self_eq_true, and_self, true_and, and_true, or_false, false_or, or_self, not_true_eq_false, not_false_eq_true, ne_eq, Bool.true_eq_false, Bool.false_eq_true, reduceCtorEq, hb] <;> rfl) ?_ (by simp only [fo_store] <;> rfl) (by simp only [List.cons_append, List.nil_append] <;> rfl) ?_
         focus (first | exact fl_store h5))
      | (with_reducible refine st_ret (by simp only [Bx.den, Ex.den, Bnd.den, gI, gB, gL, gF, gN, gNil, List.map_cons, List.map_nil, List.cons_append, List.nil_append, List.getElem?_cons_zero, List.getElem?_cons_succ, List.getD, Option.getD_some, cmp_eql_t, cmp_eql_f, cmp_neq_t, cmp_neq_f, cmp_lss_t, cmp_lss_f, cmp_leq_t, cmp_leq_f, cmp_gtr_t, cmp_gtr_f, cmp_geq_t, cmp_geq_f, Bool.not_eq_true', Bool.not_eq_false', Bool.and_eq_true, Bool.and_eq_false_iff, binDen, Option.some.injEq, EV.u.injEq, Nil.isNil, beq_self_eq_true, and_self, true_and, and_true, or_false, false_or, or_self, not_true_eq_false, not_false_eq_true, ne_eq, Bool.true_eq_false, Bool.false_eq_true, reduceCtorEq, hb] <;> rfl) ?_
         (first | rfl | exact ⟨_, rfl⟩)))
    | (refine st_loop (by rfl) (by simp only [Bx.den, Ex.den, Bnd.den, gI, gB, gL, gF, gN, gNil, List.map_cons, List.map_nil, List.cons_append, List.nil_append, List.getElem?_cons_zero, List.getElem?_cons_succ, List.getD, Option.getD_some, cmp_eql_t, cmp_eql_f, cmp_neq_t, cmp_neq_f, cmp_lss_t, cmp_lss_f, cmp_leq_t, cmp_leq_f, cmp_gtr_t, cmp_gtr_f, cmp_geq_t, cmp_geq_f, Bool.not_eq_true', Bool.not_eq_false', Bool.and_eq_true, Bool.and_eq_false_iff, binDen, Option.some.injEq, EV.u.injEq, Nil.isNil, beq_self_eq_true, and_self, true_and, and_true, or_false, false_or, or_self, not_true_eq_false, not_false_eq_true, ne_eq, Bool.true_eq_false, Bool.false_eq_true, reduceCtorEq, hb] <;> rfl) (by simp only [List.take_succ_cons, List.take_zero] <;> rfl) ?_ (fun env' h => hb env' h)
       exact ⟨_, _, _, _, _, 0, rfl, by omega, by omega, by omega, h5⟩)
    | (refine st_ret (by simp only [Bx.den, Ex.den, Bnd.den, gI, gB, gL, gF, gN, gNil, List.map_cons, List.map_nil, List.cons_append, List.nil_append, List.getElem?_cons_zero, List.getElem?_cons_succ, List.getD, Option.getD_some, cmp_eql_t, cmp_eql_f, cmp_neq_t, cmp_neq_f, cmp_lss_t, cmp_lss_f, cmp_leq_t, cmp_leq_f, cmp_gtr_t, cmp_gtr_f, cmp_geq_t, cmp_geq_f, Bool.not_eq_true', Bool.not_eq_false', Bool.and_eq_true, Bool.and_eq_false_iff, binDen, Option.some.injEq, EV.u.injEq, Nil.isNil, beq_self_eq_true, and_self, true_and, and_true, or_false, false_or, or_self, not_true_eq_false, not_false_eq_true, ne_eq, Bool.true_eq_false, Bool.false_eq_true, reduceCtorEq, hb] <;> rfl) ?_
       show _ = [EV.u (U.rmem (fillSt M a b n))]
       rw [fillSt, if_neg (by omega)])
    | fail "no step")
theorem hQSFill : cQSFill.Holds objs Try.prog := runCtr_holds (X := { cxKQ Try.prog lQSFill with hints := hsQSFill }) objsOk mixed hctsKQ (callable _ Try.func85 (by kernel_rfl) (by kernel_rfl)) (by rintro ins _ ⟨_, _, _, _, rfl, _⟩; rfl) (by rw [rQSFill]; exact vQSFill _ _)

/-! ### Chain -/
theorem qchain_next {M : MemSt} {a b n i k c : Int} {xs r : List Int} {x4 x5 x6 : EV U} {j : Int} (hM : M.fine) (hn : n ≤ 4096) (h1 : 0 ≤ k) (h3 : c = xs.length) (h4 : k ≤ c) (h5 : xs.take k.toNat ++ chainL M b n (n.toNat - k.toNat) i = chainS M a b n) (hi : 0 ≤ i) (hk : k < n) (hj : j = idxW n (M.at0 (IntKind.i64.wrap (b + i)))) :
    qChainInv [.u (.rmem M), .i a, .i b, .i n, x4, x5, x6, .u (.rmem M), .i j, .i (IntKind.i64.wrap (k + 1)), .l (xs.take k.toNat ++ i :: r), .i ((k.toNat + 1 + r.length : Nat) : Int)] := by
  rw [wrap_small (n := k + 1) (by omega) (by omega)]
  refine ⟨M, a, b, n, _, _, _, j, k + 1, _, _, rfl, hM, hn, by omega, by omega, by rw [len_app (by omega)], by omega, ?_, ?_⟩
  · rw [chain_step hi (by omega)] at h5
    rw [toNat_succ h1, take_app rfl (by omega), ← h5, hj, List.append_assoc]; rfl
  · rw [hj]; exact idxW_hi _ _
set_option maxHeartbeats 2000000 in
theorem vQChain (P : Program) (hs : List (Nat × Nat × List Nat)) : ∀ ins, ins.length = cQChain.nin → cQChain.pre ins → tQChain.sat { cxKQ P lQChain with hints := hs } (ctrR cQChain) ins := by
  have hb : ∀ env, qChainInv env → tQChainL0.sat { cxKQ P lQChain with hints := hs } (ctrR cQChain) env := by
    rintro env ⟨M, a, b, n, x4, x5, x6, i, k, xs, c, rfl, hM, hn, h1, h2, h3, h4, h5, h6⟩
    unfold tQChainL0
    repeat' (first
      | (first
        | (with_reducible refine st_need ?_ ?_
           focus (simp only [Bx.den, Ex.den, Bnd.den, gI, gB, gL, gF, gN, gNil, List.map_cons, List.map_nil, List.cons_append, List.nil_append, List.getElem?_cons_zero, List.getElem?_cons_succ, List.getD, Option.getD_some, cmp_eql_t, cmp_eql_f, cmp_neq_t, cmp_neq_f, cmp_lss_t, cmp_lss_f, cmp_leq_t, cmp_leq_f, cmp_gtr_t, cmp_gtr_f, cmp_geq_t, cmp_geq_f, Bool.not_eq_true', Bool.not_eq_false', Bool.and_eq_true, Bool.and_eq_false_iff, binDen, Option.some.injEq, EV.u.injEq, Nil.isNil, beq_self_eq_true, and_self, true_and, and_true, or_false, false_or, or_self, not_true_eq_false, not_false_eq_true, ne_eq, Bool.true_eq_false, Bool.false_eq_true, reduceCtorEq, h3] <;> first | omega | assumption))
        | (with_reducible refine st_and ?_ ?_)
        | (with_reducible exact st_ok)
        | (with_reducible refine st_br (fun hc => ?_) (fun hc => ?_) <;> (simp only [Bx.den, Ex.den, Bnd.den, gI, gB, gL, gF, gN, gNil, List.map_cons, List.map_nil, List.cons_append, List.nil_append, List.getElem?_cons_zero, List.getElem?_cons_succ, List.getD, Option.getD_some, cmp_eql_t, cmp_eql_f, cmp_neq_t, cmp_neq_f, cmp_lss_t, cmp_lss_f, cmp_leq_t, cmp_leq_f, cmp_gtr_t, cmp_gtr_f, cmp_geq_t, cmp_geq_f, Bool.not_eq_true', Bool.not_eq_false', Bool.and_eq_true, Bool.and_eq_false_iff, binDen, Option.some.injEq, EV.u.injEq, Nil.isNil, beq_self_eq_true, and_self, true_and, and_true, or_false, false_or, or_self, not_true_eq_false, not_false_eq_true, ne_eq, Bool.true_eq_false, Bool.false_eq_true, reduceCtorEq, h3] at hc) <;> (try (exfalso; first | contradiction | omega)))
        | (refine st_call (by rfl) (by simp only [Bx.den, Ex.den, Bnd.den, gI, gB, gL, gF, gN, gNil, List.map_cons, List.map_nil, List.cons_append, List.nil_append, List.getElem?_cons_zero, List.getElem?_cons_succ, List.getD, Option.getD_some, cmp_eql_t, cmp_eql_f, cmp_neq_t, cmp_neq_f, cmp_lss_t, cmp_lss_f, cmp_leq_t, cmp_leq_f, cmp_gtr_t, cmp_gtr_f, cmp_geq_t, cmp_geq_f, Bool.not_eq_true', Bool.not_eq_false', Bool.and_eq_true, Bool.and_eq_false_iff, binDen, Option.some.injEq, EV.u.injEq, Nil.isNil, beq_self_eq_true, and_self, true_and, and_true, or_false, false_or, or_self, not_true_eq_false, not_false_eq_true, ne_eq, Bool.true_eq_false, Bool.false_eq_true, reduceCtorEq, h3] <;> rfl) ?_ (by simp only [out_qidx, fo_at] <;> rfl) (by simp only [List.cons_append, List.nil_append] <;> rfl) ?_
           focus (first | exact fl_at hM | exact ⟨_, _, _, _, rfl, fine_at0 hM _⟩))
        | (with_reducible refine st_ret (by simp only [Bx.den, Ex.den, Bnd.den, gI, gB, gL, gF, gN, gNil, List.map_cons, List.map_nil, List.cons_append, List.nil_append, List.getElem?_cons_zero, List.getElem?_cons_succ, List.getD, Option.getD_some, cmp_eql_t, cmp_eql_f, cmp_neq_t, cmp_neq_f, cmp_lss_t, cmp_lss_f, cmp_leq_t, cmp_leq_f, cmp_gtr_t, cmp_gtr_f, cmp_geq_t, cmp_geq_f, Bool.not_eq_true', Bool.not_eq_false', Bool.and_eq_true, Bool.and_eq_false_iff, binDen, Option.some.injEq, EV.u.injEq, Nil.isNil, beq_self_eq_true, and_self, true_and, and_true, or_false, false_or, or_self, not_true_eq_false, not_false_eq_true, ne_eq, Bool.true_eq_false, Bool.false_eq_true, reduceCtorEq, h3] <;> rfl) ?_
           (first | rfl | exact ⟨_, rfl⟩)))
      | (refine st_app (by rfl) (by simp only [Bx.den, Ex.den, Bnd.den, gI, gB, gL, gF, gN, gNil, List.map_cons, List.map_nil, List.cons_append, List.nil_append, List.getElem?_cons_zero, List.getElem?_cons_succ, List.getD, Option.getD_some, cmp_eql_t, cmp_eql_f, cmp_neq_t, cmp_neq_f, cmp_lss_t, cmp_lss_f, cmp_leq_t, cmp_leq_f, cmp_gtr_t, cmp_gtr_f, cmp_geq_t, cmp_geq_f, Bool.not_eq_true', Bool.not_eq_false', Bool.and_eq_true, Bool.and_eq_false_iff, binDen, Option.some.injEq, EV.u.injEq, Nil.isNil, beq_self_eq_true, and_self, true_and, and_true, or_false, false_or, or_self, not_true_eq_false, not_false_eq_true, ne_eq, Bool.true_eq_false, Bool.false_eq_true, reduceCtorEq, h3] <;> rfl) (by simp only [Bx.den, Ex.den, Bnd.den, gI, gB, gL, gF, gN, gNil, List.map_cons, List.map_nil, List.cons_append, List.nil_append, List.getElem?_cons_zero, List.getElem?_cons_succ, List.getD, Option.getD_some, cmp_eql_t, cmp_eql_f, cmp_neq_t, cmp_neq_f, cmp_lss_t, cmp_lss_f, cmp_leq_t, cmp_leq_f, cmp_gtr_t, cmp_gtr_f, cmp_geq_t, cmp_geq_f, Bool.not_eq_true', Bool.not_eq_false', Bool.and_eq_true, Bool.and_eq_false_iff, binDen, Option.some.injEq, EV.u.injEq, Nil.isNil, beq_self_eq_true, and_self, true_and, and_true, or_false, false_or, or_self, not_true_eq_false, not_false_eq_true, ne_eq, Bool.true_eq_false, Bool.false_eq_true, reduceCtorEq, h3] <;> rfl) (fun rr env' he => ?_)
         simp only [List.cons_append, List.nil_append] at he
         subst he)
      | (refine st_rng (fun LL env' he => ?_)
         simp only [List.cons_append, List.nil_append] at he
         subst he)
      | (refine st_lst (by simp only [List.map_cons, List.map_nil, List.cons_append, List.nil_append] <;> rfl) ?_)
      | (refine st_back (by rfl) (by simp only [Bx.den, Ex.den, Bnd.den, gI, gB, gL, gF, gN, gNil, List.map_cons, List.map_nil, List.cons_append, List.nil_append, List.getElem?_cons_zero, List.getElem?_cons_succ, List.getD, Option.getD_some, cmp_eql_t, cmp_eql_f, cmp_neq_t, cmp_neq_f, cmp_lss_t, cmp_lss_f, cmp_leq_t, cmp_leq_f, cmp_gtr_t, cmp_gtr_f, cmp_geq_t, cmp_geq_f, Bool.not_eq_true', Bool.not_eq_false', Bool.and_eq_true, Bool.and_eq_false_iff, binDen, Option.some.injEq, EV.u.injEq, Nil.isNil, beq_self_eq_true, and_self, true_and, and_true, or_false, false_or, or_self, not_true_eq_false, not_false_eq_true, ne_eq, Bool.true_eq_false, Bool.false_eq_true, reduceCtorEq, h3] <;> rfl) (by simp only [List.take_succ_cons, List.take_zero] <;> rfl) (by rfl) ?_ ?_
         focus (exact qchain_next hM hn h1 h3 h4 h5 (by omega) (by omega) rfl)
         focus (rw [wrap_small (n := k + 1) (by omega) (by omega)]; show (n - (k + 1)).toNat < (n - k).toNat; omega))
      | (refine st_ret (by simp only [Bx.den, Ex.den, Bnd.den, gI, gB, gL, gF, gN, gNil, List.map_cons, List.map_nil, List.cons_append, List.nil_append, List.getElem?_cons_zero, List.getElem?_cons_succ, List.getD, Option.getD_some, cmp_eql_t, cmp_eql_f, cmp_neq_t, cmp_neq_f, cmp_lss_t, cmp_lss_f, cmp_leq_t, cmp_leq_f, cmp_gtr_t, cmp_gtr_f, cmp_geq_t, cmp_geq_f, Bool.not_eq_true', Bool.not_eq_false', Bool.and_eq_true, Bool.and_eq_false_iff, binDen, Option.some.injEq, EV.u.injEq, Nil.isNil, beq_self_eq_true, and_self, true_and, and_true, or_false, false_or, or_self, not_true_eq_false, not_false_eq_true, ne_eq, Bool.true_eq_false, Bool.false_eq_true, reduceCtorEq, h3] <;> rfl) ?_
         have hce : chainL M b n (n.toNat - k.toNat) i = [] := chain_end (by omega)
         rw [hce, List.append_nil] at h5
         obtain ⟨rr, hr⟩ := split_at h5
         refine Exists.intro rr ?_
         have hlen : (chainS M a b n).length = k.toNat := by rw [← h5, List.length_take]; omega
         show _ = [EV.u (U.rmem M), EV.l (chainS M a b n ++ rr), EV.i ((chainS M a b n).length : Int), EV.i (((chainS M a b n).length + rr.length : Nat) : Int)]
         have hx : xs.length = k.toNat + rr.length := by rw [hr, List.length_append, hlen]
         rw [← hr, hlen, ← hx, show ((k.toNat : Nat) : Int) = k by omega, ← h3])
      | fail "no step")
  rintro ins _ ⟨M, a, b, n, rfl, hM, hn⟩
  unfold tQChain
  repeat' (first
    | (first
      | (with_reducible refine st_need ?_ ?_
         focus (simp only [Bx.den, Ex.den, Bnd.den, gI, gB, gL, gF, gN, gNil, List.map_cons, List.map_nil, List.cons_append, List.nil_append, List.getElem?_cons_zero, List.getElem?_cons_succ, List.getD, Option.getD_some, cmp_eql_t, cmp_eql_f, cmp_neq_t, cmp_neq_f, cmp_lss_t, cmp_lss_f, cmp_leq_t, cmp_leq_f, cmp_gtr_t, cmp_gtr_f, cmp_geq_t, cmp_geq_f, Bool.not_eq_true', Bool.not_eq_false', Bool.and_eq_true, Bool.and_eq_false_iff, binDen, Option.some.injEq, EV.u.injEq, Nil.isNil, beq_self_eq_true, and_self, true_and, and_true, or_false, false_or, or_self, not_true_eq_false, not_false_eq_true, ne_eq, Bool.true_eq_false, Bool.false_eq_true, reduceCtorEq, hn] <;> first | omega | assumption))
      | (with_reducible refine st_and ?_ ?_)
      | (with_reducible exact st_ok)
      | (with_reducible refine st_br (fun hc => ?_) (fun hc => ?_) <;> (simp only [Bx.den, Ex.den, Bnd.den, gI, gB, gL, gF, gN, gNil, List.map_cons, List.map_nil, List.cons_append, List.nil_append, List.getElem?_cons_zero, List.getElem?_cons_succ, List.getD, Option.getD_some, cmp_eql_t, cmp_eql_f, cmp_neq_t, cmp_neq_f, cmp_lss_t, cmp_lss_f, cmp_leq_t, cmp_leq_f, cmp_gtr_t, cmp_gtr_f, cmp_geq_t, cmp_geq_f, Bool.not_eq_true', Bool.not_eq_false', Bool.and_eq_true, Bool.and_eq_false_iff, binDen, Option.some.injEq, EV.u.injEq, Nil.isNil, beq_self_eq_true, and_self, true_and, and_true, or_false, false_or, or_self, not_true_eq_false, not_false_eq_true, ne_eq, Bool.true_eq_false, Bool.false_eq_true, reduceCtorEq, hn] at hc) <;> (try (exfalso; first | contradiction | omega)))
      | (refine st_call (by rfl) (by simp only [Bx.den, Ex.den, Bnd.den, gI, gB, gL, gF, gN, gNil, List.map_cons, List.map_nil, List.cons_append, List.nil_append, List.getElem?_cons_zero, List.getElem?_cons_succ, List.getD, Option.getD_some, cmp_eql_t, cmp_eql_f, cmp_neq_t, cmp_neq_f, cmp_lss_t, cmp_lss_f, cmp_leq_t, cmp_leq_f, cmp_gtr_t, cmp_gtr_f, cmp_geq_t, cmp_geq_f, Bool.not_eq_true', Bool.not_eq_false', Bool.and_eq_true, Bool.and_eq_false_iff, binDen, Option.some.injEq, EV.u.injEq, Nil.isNil, beq_self_eq_true, and_self, true_and, and_true, or_false, false_or, or_self, not_true_eq_false, not_false_eq_true, ne_eq, Bool.true_eq_false, Bool.false_eq_true, reduceCtorEq, hn] <;> rfl) ?_ (by simp only [out_qidx, fo_at] <;> rfl) (by simp only [List.cons_append, List.nil_append] <;> rfl) ?_
         focus (first | exact fl_at hM | exact ⟨_, _, _, _, rfl, fine_at0 hM _⟩))
      | (with_reducible refine st_ret (by simp only [Bx.den, Ex.den, Bnd.den, gI, gB, gL, gF, gN, gNil, List.map_cons, List.map_nil, List.cons_append, List.nil_append, List.getElem?_cons_zero, List.getElem?_cons_succ, List.getD, Option.getD_some, cmp_eql_t, cmp_eql_f, cmp_neq_t, cmp_neq_f, cmp_lss_t, cmp_lss_f, cmp_leq_t, cmp_leq_f, cmp_gtr_t, cmp_gtr_f, cmp_geq_t, cmp_geq_f, Bool.not_eq_true', Bool.not_eq_false', Bool.and_eq_true, Bool.and_eq_false_iff, binDen, Option.some.injEq, EV.u.injEq, Nil.isNil, beq_self_eq_true, and_self, true_and, and_true, or_false, false_or, or_self, not_true_eq_false, not_false_eq_true, ne_eq, Bool.true_eq_false, Bool.false_eq_true, reduceCtorEq, hn] <;> rfl) ?_
         (first | rfl | exact ⟨_, rfl⟩)))
    | (refine st_app (by rfl) (by simp only [Bx.den, Ex.den, Bnd.den, gI, gB, gL, gF, gN, gNil, List.map_cons, List.map_nil, List.cons_append, List.nil_append, List.getElem?_cons_zero, List.getElem?_cons_succ, List.getD, Option.getD_some, cmp_eql_t, cmp_eql_f, cmp_neq_t, cmp_neq_f, cmp_lss_t, cmp_lss_f, cmp_leq_t, cmp_leq_f, cmp_gtr_t, cmp_gtr_f, cmp_geq_t, cmp_geq_f, Bool.not_eq_true', Bool.not_eq_false', Bool.and_eq_true, Bool.and_eq_false_iff, binDen, Option.some.injEq, EV.u.injEq, Nil.isNil, beq_self_eq_true, and_self, true_and, and_true, or_false, false_or, or_self, not_true_eq_false, not_false_eq_true, ne_eq, Bool.true_eq_false, Bool.false_eq_true, reduceCtorEq, hn] <;> rfl) (by simp only [Bx.den, Ex.den, Bnd.den, gI, gB, gL, gF, gN, gNil, List.map_cons, List.map_nil, List.cons_append, List.nil_append, List.getElem?_cons_zero, List.getElem?_cons_succ, List.getD, Option.getD_some, cmp_eql_t, cmp_eql_f, cmp_neq_t, cmp_neq_f, cmp_lss_t, cmp_lss_f, cmp_leq_t, cmp_leq_f, cmp_gtr_t, cmp_gtr_f, cmp_geq_t, cmp_geq_f, Bool.not_eq_true', Bool.not_eq_false', Bool.and_eq_true, Bool.and_eq_false_iff, binDen, Option.some.injEq, EV.u.injEq, Nil.isNil, beq_self_eq_true, and_self, true_and, and_true, or_false, false_or, or_self, not_true_eq_false, not_false_eq_true, ne_eq, Bool.true_eq_false, Bool.false_eq_true, reduceCtorEq, hn] <;> rfl) (fun rr env' he => ?_)
       simp only [List.cons_append, List.nil_append] at he
       subst he)
    | (refine st_rng (fun LL env' he => ?_)
       simp only [List.cons_append, List.nil_append] at he
       subst he)
    | (refine st_lst (by simp only [List.map_cons, List.map_nil, List.cons_append, List.nil_append] <;> rfl) ?_)
    | (refine st_loop (by rfl) (by simp only [Bx.den, Ex.den, Bnd.den, gI, gB, gL, gF, gN, gNil, List.map_cons, List.map_nil, List.cons_append, List.nil_append, List.getElem?_cons_zero, List.getElem?_cons_succ, List.getD, Option.getD_some, cmp_eql_t, cmp_eql_f, cmp_neq_t, cmp_neq_f, cmp_lss_t, cmp_lss_f, cmp_leq_t, cmp_leq_f, cmp_gtr_t, cmp_gtr_f, cmp_geq_t, cmp_geq_f, Bool.not_eq_true', Bool.not_eq_false', Bool.and_eq_true, Bool.and_eq_false_iff, binDen, Option.some.injEq, EV.u.injEq, Nil.isNil, beq_self_eq_true, and_self, true_and, and_true, or_false, false_or, or_self, not_true_eq_false, not_false_eq_true, ne_eq, Bool.true_eq_false, Bool.false_eq_true, reduceCtorEq, hn] <;> rfl) (by simp only [List.take_succ_cons, List.take_zero] <;> rfl) ?_ (fun env' h => hb env' h)
       refine ⟨M, a, b, n, _, _, _, _, 0, [], 0, rfl, hM, hn, by omega, by omega, by rfl, by omega, ?_, ?_⟩
       focus (rw [chainS]; rfl)
       focus (exact idxW_hi _ _))
    | fail "no step")
theorem hQChain : cQChain.Holds objs Try.prog := runCtr_holdsm (X := { cxKQ Try.prog lQChain with hints := hsQChain }) objsOk mixed hctsKQ (callable _ Try.func42 (by kernel_rfl) (by kernel_rfl)) (by rintro ins outs _ ⟨_, _, _, _, rfl, _⟩ ⟨c, rfl⟩; rfl) (by rw [rQChain]; exact vQChain _ _)

/-! ### operations -/
theorem vQNewPo (P : Program) (hs : List (Nat × Nat × List Nat)) : ∀ ins, ins.length = cQNewPo.nin → cQNewPo.pre ins → tQNewPo.sat { cx P [] with hints := hs } (ctrR cQNewPo) ins := by
  rintro ins _ ⟨a, b, n, rfl⟩
  simp only [Tree.sat, Bx.den, Ex.den, Bnd.den, gI, gB, gL, gF, gN, gNil, List.map_cons, List.map_nil, List.cons_append, List.nil_append, List.getElem?_cons_zero, List.getElem?_cons_succ, List.getD, Option.getD_some, cmp_eql_t, cmp_eql_f, cmp_neq_t, cmp_neq_f, cmp_lss_t, cmp_lss_f, cmp_leq_t, cmp_leq_f, cmp_gtr_t, cmp_gtr_f, cmp_geq_t, cmp_geq_f, Bool.not_eq_true', Bool.not_eq_false', Bool.and_eq_true, Bool.and_eq_false_iff, binDen, ctrR, Ctr.may, List.take_succ_cons, List.take_zero, Option.some.injEq, EV.u.injEq, tQNewPo, cx, objs, rpopT, rpopTObj, cQNewPo, newPo, true_and, and_true, ne_eq, not_true_eq_false, not_false_eq_true, false_implies, true_implies, implies_true, List.append_assoc]
  exact ⟨_, _, _, _, _, _, _, rfl, .inl rfl⟩
theorem hQNewPo : cQNewPo.Holds objs Try.prog := runCtr_holds (X := { cx Try.prog [] with hints := hsQNewPo }) objsOk mixed noCts (callable _ Try.func87 (by kernel_rfl) (by kernel_rfl)) (by rintro ins _ ⟨_, _, _, rfl⟩; rfl) (by rw [rQNewPo]; exact vQNewPo _ _)
set_option maxHeartbeats 2000000 in
theorem vQPoStep (P : Program) (hs : List (Nat × Nat × List Nat)) : ∀ ins, ins.length = cQPoStep.nin → cQPoStep.pre ins → tQPoStep.sat { cx P ctsKQ with hints := hs } (ctrR cQPoStep) ins := by
  rintro ins _ ⟨p, M, rfl, hp, hM⟩
  simp only [Tree.sat, Bx.den, Ex.den, Bnd.den, gI, gB, gL, gF, gN, gNil, List.map_cons, List.map_nil, List.cons_append, List.nil_append, List.getElem?_cons_zero, List.getElem?_cons_succ, List.getD, Option.getD_some, cmp_eql_t, cmp_eql_f, cmp_neq_t, cmp_neq_f, cmp_lss_t, cmp_lss_f, cmp_leq_t, cmp_leq_f, cmp_gtr_t, cmp_gtr_f, cmp_geq_t, cmp_geq_f, Bool.not_eq_true', Bool.not_eq_false', Bool.and_eq_true, Bool.and_eq_false_iff, binDen, ctrR, Ctr.may, List.take_succ_cons, List.take_zero, Option.some.injEq, EV.u.injEq, tQPoStep, cx, ctsKQ, objs]
  refine ⟨?_, nomore_rpop⟩
  rintro ps hl ⟨t, l, s, n, w, i, j, rfl, hn⟩ he
  injection he with he; subst he
  obtain ⟨g1, g2, g3, g4⟩ := hp
  have q1 := idxW_lo s (M.load t).n
  rcases hn with rfl | ⟨rfl | rfl, hi⟩ | rfl
  all_goals
    simp only [Tree.sat, Bx.den, Ex.den, Bnd.den, gI, gB, gL, gF, gN, gNil, List.map_cons, List.map_nil, List.cons_append, List.nil_append, List.getElem?_cons_zero, List.getElem?_cons_succ, List.getD, Option.getD_some, cmp_eql_t, cmp_eql_f, cmp_neq_t, cmp_neq_f, cmp_lss_t, cmp_lss_f, cmp_leq_t, cmp_leq_f, cmp_gtr_t, cmp_gtr_f, cmp_geq_t, cmp_geq_f, Bool.not_eq_true', Bool.not_eq_false', Bool.and_eq_true, Bool.and_eq_false_iff, binDen, ctrR, Ctr.may, List.take_succ_cons, List.take_zero, Option.some.injEq, EV.u.injEq, rpopT, rpopTObj, cQPoStep, stepPo, fo_load, fo_cas, out_qidx, out_qtop, true_and, and_true, ne_eq, not_true_eq_false, not_false_eq_true, false_implies, true_implies, implies_true, List.append_assoc]
    repeat' (first | with_reducible apply And.intro | intro _)
  all_goals first
    | omega
    | exact fl_load hM
    | exact fl_cas hM
    | exact ⟨_, _, _, _, rfl, n_load hM _⟩
    | exact ⟨_, _, rfl, g3, g4, g2⟩
    | exact ⟨_, _, _, _, _, _, _, rfl, by omega⟩
    | (rename_i h; rw [if_pos h]; rfl)
    | (rename_i h; rw [if_neg (by omega)]; rfl)
    | (rename_i h; simp [h]; done)
    | (rename_i h; simp [show ¬ idxW s (M.load t).n < 0 from by omega]; done)
    | (simp; done)
theorem hQPoStep : cQPoStep.Holds objs Try.prog := runCtr_holds (X := { cx Try.prog ctsKQ with hints := hsQPoStep }) objsOk mixed hctsKQ (callable _ Try.func90 (by kernel_rfl) (by kernel_rfl)) (by rintro ins _ ⟨_, _, rfl, _⟩; rfl) (by rw [rQPoStep]; exact vQPoStep _ _)
set_option maxHeartbeats 1000000 in
theorem vQPoIndex (P : Program) (hs : List (Nat × Nat × List Nat)) : ∀ ins, ins.length = cQPoIndex.nin → cQPoIndex.pre ins → tQPoIndex.sat { cx P [] with hints := hs } (ctrR cQPoIndex) ins := by
  rintro ins _ ⟨p, rfl, hp⟩
  simp only [Tree.sat, Bx.den, Ex.den, Bnd.den, gI, gB, gL, gF, gN, gNil, List.map_cons, List.map_nil, List.cons_append, List.nil_append, List.getElem?_cons_zero, List.getElem?_cons_succ, List.getD, Option.getD_some, cmp_eql_t, cmp_eql_f, cmp_neq_t, cmp_neq_f, cmp_lss_t, cmp_lss_f, cmp_leq_t, cmp_leq_f, cmp_gtr_t, cmp_gtr_f, cmp_geq_t, cmp_geq_f, Bool.not_eq_true', Bool.not_eq_false', Bool.and_eq_true, Bool.and_eq_false_iff, binDen, ctrR, Ctr.may, List.take_succ_cons, List.take_zero, Option.some.injEq, EV.u.injEq, tQPoIndex, cx, objs]
  refine ⟨?_, nomore_rpop⟩
  rintro ps hl ⟨t, l, s, n, w, i, j, rfl, hn⟩ he
  injection he with he; subst he
  simp only [Tree.sat, Bx.den, Ex.den, Bnd.den, gI, gB, gL, gF, gN, gNil, List.map_cons, List.map_nil, List.cons_append, List.nil_append, List.getElem?_cons_zero, List.getElem?_cons_succ, List.getD, Option.getD_some, cmp_eql_t, cmp_eql_f, cmp_neq_t, cmp_neq_f, cmp_lss_t, cmp_lss_f, cmp_leq_t, cmp_leq_f, cmp_gtr_t, cmp_gtr_f, cmp_geq_t, cmp_geq_f, Bool.not_eq_true', Bool.not_eq_false', Bool.and_eq_true, Bool.and_eq_false_iff, binDen, ctrR, Ctr.may, List.take_succ_cons, List.take_zero, Option.some.injEq, EV.u.injEq, rpopT, rpopTObj, cQPoIndex, toldS, true_and, and_true, ne_eq, not_true_eq_false, not_false_eq_true, false_implies, true_implies, implies_true, List.append_assoc]
  repeat' (first | with_reducible apply And.intro | intro _)
  all_goals first
    | omega
    | exact ⟨_, _, _, _, _, _, _, rfl, hn⟩
    | (simp [*]; done)
    | (simp [*]; omega)
    | (rw [if_neg (by omega)]; done)
    | (rw [if_pos (by omega), if_neg (by omega)]; done)
    | (rw [if_pos (by omega), if_pos (by omega)]; done)
theorem hQPoIndex : cQPoIndex.Holds objs Try.prog := runCtr_holds (X := { cx Try.prog [] with hints := hsQPoIndex }) objsOk mixed noCts (callable _ Try.func91 (by kernel_rfl) (by kernel_rfl)) (by rintro ins _ ⟨_, rfl, _⟩; rfl) (by rw [rQPoIndex]; exact vQPoIndex _ _)
theorem vQNewPu (P : Program) (hs : List (Nat × Nat × List Nat)) : ∀ ins, ins.length = cQNewPu.nin → cQNewPu.pre ins → tQNewPu.sat { cx P [] with hints := hs } (ctrR cQNewPu) ins := by
  rintro ins _ ⟨a, b, n, i, rfl⟩
  simp only [Tree.sat, Bx.den, Ex.den, Bnd.den, gI, gB, gL, gF, gN, gNil, List.map_cons, List.map_nil, List.cons_append, List.nil_append, List.getElem?_cons_zero, List.getElem?_cons_succ, List.getD, Option.getD_some, cmp_eql_t, cmp_eql_f, cmp_neq_t, cmp_neq_f, cmp_lss_t, cmp_lss_f, cmp_leq_t, cmp_leq_f, cmp_gtr_t, cmp_gtr_f, cmp_geq_t, cmp_geq_f, Bool.not_eq_true', Bool.not_eq_false', Bool.and_eq_true, Bool.and_eq_false_iff, binDen, ctrR, Ctr.may, List.take_succ_cons, List.take_zero, Option.some.injEq, EV.u.injEq, tQNewPu, cx, objs, rpushT, rpushTObj, cQNewPu, newPu, true_and, and_true, ne_eq, not_true_eq_false, not_false_eq_true, false_implies, true_implies, implies_true, List.append_assoc]
  repeat' (first | with_reducible apply And.intro | intro _)
  all_goals first
    | exact ⟨_, _, _, _, _, _, _, rfl, by omega⟩
    | (rename_i h; simp [h]; done)
    | (rw [if_neg (by omega)]; done)
    | (simp; omega)
theorem hQNewPu : cQNewPu.Holds objs Try.prog := runCtr_holds (X := { cx Try.prog [] with hints := hsQNewPu }) objsOk mixed noCts (callable _ Try.func88 (by kernel_rfl) (by kernel_rfl)) (by rintro ins _ ⟨_, _, _, _, rfl⟩; rfl) (by rw [rQNewPu]; exact vQNewPu _ _)
set_option maxHeartbeats 2000000 in
theorem vQPuStep (P : Program) (hs : List (Nat × Nat × List Nat)) : ∀ ins, ins.length = cQPuStep.nin → cQPuStep.pre ins → tQPuStep.sat { cx P ctsKQ with hints := hs } (ctrR cQPuStep) ins := by
  rintro ins _ ⟨p, M, rfl, hp, hM⟩
  simp only [Tree.sat, Bx.den, Ex.den, Bnd.den, gI, gB, gL, gF, gN, gNil, List.map_cons, List.map_nil, List.cons_append, List.nil_append, List.getElem?_cons_zero, List.getElem?_cons_succ, List.getD, Option.getD_some, cmp_eql_t, cmp_eql_f, cmp_neq_t, cmp_neq_f, cmp_lss_t, cmp_lss_f, cmp_leq_t, cmp_leq_f, cmp_gtr_t, cmp_gtr_f, cmp_geq_t, cmp_geq_f, Bool.not_eq_true', Bool.not_eq_false', Bool.and_eq_true, Bool.and_eq_false_iff, binDen, ctrR, Ctr.may, List.take_succ_cons, List.take_zero, Option.some.injEq, EV.u.injEq, tQPuStep, cx, ctsKQ, objs]
  refine ⟨?_, nomore_rpush⟩
  rintro ps hl ⟨t, l, s, n, w, i, e, rfl, hn⟩ he
  injection he with he; subst he
  by_cases he0 : e = 0
  · subst he0
    obtain ⟨g1, g2, g3, g4⟩ := hp
    have q1 := idxW_lo s w
    have q2 := idxW_hi s w
    have w1 : IntKind.i64.wrap (idxW s w + 1) = idxW s w + 1 := wrap_small (by omega) (by omega)
    have w2 : IntKind.u64.wrap (idxW s w + 1) = idxW s w + 1 := u64_small (by omega) (by omega)
    have hn' : n = 1 ∨ n = 2 ∨ n = 3 ∨ n = 9 := by omega
    rcases hn' with rfl | rfl | rfl | rfl
    all_goals
      simp only [Tree.sat, Bx.den, Ex.den, Bnd.den, gI, gB, gL, gF, gN, gNil, List.map_cons, List.map_nil, List.cons_append, List.nil_append, List.getElem?_cons_zero, List.getElem?_cons_succ, List.getD, Option.getD_some, cmp_eql_t, cmp_eql_f, cmp_neq_t, cmp_neq_f, cmp_lss_t, cmp_lss_f, cmp_leq_t, cmp_leq_f, cmp_gtr_t, cmp_gtr_f, cmp_geq_t, cmp_geq_f, Bool.not_eq_true', Bool.not_eq_false', Bool.and_eq_true, Bool.and_eq_false_iff, binDen, ctrR, Ctr.may, List.take_succ_cons, List.take_zero, Option.some.injEq, EV.u.injEq, rpushT, rpushTObj, cQPuStep, stepPu, fo_load, fo_store, fo_cas, out_qidx, out_qtop, w1, w2, true_and, and_true, ne_eq, not_true_eq_false, not_false_eq_true, false_implies, true_implies, implies_true, List.append_assoc]
      repeat' (first | with_reducible apply And.intro | intro _)
    all_goals first
      | omega
      | exact fl_load hM
      | exact fl_store hM
      | exact fl_cas hM
      | exact ⟨_, _, _, _, rfl, g2⟩
      | exact ⟨_, _, rfl, Int.le_trans (by decide) g3, g4, g2⟩
      | exact ⟨_, _, _, _, _, _, _, rfl, by omega⟩
      | rfl
      | (rename_i h; simp [h]; done)
      | (simp; done)
  · have hn9 : n = 9 := by omega
    subst hn9
    simp only [Tree.sat, Bx.den, Ex.den, Bnd.den, gI, gB, gL, gF, gN, gNil, List.map_cons, List.map_nil, List.cons_append, List.nil_append, List.getElem?_cons_zero, List.getElem?_cons_succ, List.getD, Option.getD_some, cmp_eql_t, cmp_eql_f, cmp_neq_t, cmp_neq_f, cmp_lss_t, cmp_lss_f, cmp_leq_t, cmp_leq_f, cmp_gtr_t, cmp_gtr_f, cmp_geq_t, cmp_geq_f, Bool.not_eq_true', Bool.not_eq_false', Bool.and_eq_true, Bool.and_eq_false_iff, binDen, ctrR, Ctr.may, List.take_succ_cons, List.take_zero, Option.some.injEq, EV.u.injEq, rpushT, rpushTObj, cQPuStep, stepPu, true_and, and_true, ne_eq, not_true_eq_false, not_false_eq_true, false_implies, true_implies, implies_true, List.append_assoc]
    repeat' (first | with_reducible apply And.intro | intro _)
    all_goals first
      | omega
      | exact ⟨_, _, _, _, _, _, _, rfl, by omega⟩
      | rfl
      | (simp [he0]; rfl)
      | (simp [he0]; done)
theorem hQPuStep : cQPuStep.Holds objs Try.prog := runCtr_holds (X := { cx Try.prog ctsKQ with hints := hsQPuStep }) objsOk mixed hctsKQ (callable _ Try.func92 (by kernel_rfl) (by kernel_rfl)) (by rintro ins _ ⟨_, _, rfl, _⟩; rfl) (by rw [rQPuStep]; exact vQPuStep _ _)
set_option maxHeartbeats 1000000 in
theorem vQPuErr (P : Program) (hs : List (Nat × Nat × List Nat)) : ∀ ins, ins.length = cQPuErr.nin → cQPuErr.pre ins → tQPuErr.sat { cx P [] with hints := hs } (ctrR cQPuErr) ins := by
  rintro ins _ ⟨p, rfl, hp⟩
  simp only [Tree.sat, Bx.den, Ex.den, Bnd.den, gI, gB, gL, gF, gN, gNil, List.map_cons, List.map_nil, List.cons_append, List.nil_append, List.getElem?_cons_zero, List.getElem?_cons_succ, List.getD, Option.getD_some, cmp_eql_t, cmp_eql_f, cmp_neq_t, cmp_neq_f, cmp_lss_t, cmp_lss_f, cmp_leq_t, cmp_leq_f, cmp_gtr_t, cmp_gtr_f, cmp_geq_t, cmp_geq_f, Bool.not_eq_true', Bool.not_eq_false', Bool.and_eq_true, Bool.and_eq_false_iff, binDen, ctrR, Ctr.may, List.take_succ_cons, List.take_zero, Option.some.injEq, EV.u.injEq, tQPuErr, cx, objs]
  refine ⟨?_, nomore_rpush⟩
  rintro ps hl ⟨t, l, s, n, w, i, e, rfl, hn⟩ he
  injection he with he; subst he
  simp only [Tree.sat, Bx.den, Ex.den, Bnd.den, gI, gB, gL, gF, gN, gNil, List.map_cons, List.map_nil, List.cons_append, List.nil_append, List.getElem?_cons_zero, List.getElem?_cons_succ, List.getD, Option.getD_some, cmp_eql_t, cmp_eql_f, cmp_neq_t, cmp_neq_f, cmp_lss_t, cmp_lss_f, cmp_leq_t, cmp_leq_f, cmp_gtr_t, cmp_gtr_f, cmp_geq_t, cmp_geq_f, Bool.not_eq_true', Bool.not_eq_false', Bool.and_eq_true, Bool.and_eq_false_iff, binDen, ctrR, Ctr.may, List.take_succ_cons, List.take_zero, Option.some.injEq, EV.u.injEq, rpushT, rpushTObj, cQPuErr, errPu, true_and, and_true, ne_eq, not_true_eq_false, not_false_eq_true, false_implies, true_implies, implies_true, List.append_assoc]
  by_cases he0 : e = 0
  · subst he0
    repeat' (first | with_reducible apply And.intro | intro _)
    all_goals first
      | omega
      | exact ⟨_, _, _, _, _, _, _, rfl, hn⟩
      | (simp [*]; done)
      | (rename_i h; simp [h]; done)
  · have hn9 : n = 9 := by omega
    subst hn9
    repeat' (first | with_reducible apply And.intro | intro _)
    all_goals first
      | omega
      | exact ⟨_, _, _, _, _, _, _, rfl, by omega⟩
      | (simp [he0]; done)
theorem hQPuErr : cQPuErr.Holds objs Try.prog := runCtr_holds (X := { cx Try.prog [] with hints := hsQPuErr }) objsOk mixed noCts (callable _ Try.func93 (by kernel_rfl) (by kernel_rfl)) (by rintro ins _ ⟨_, rfl, _⟩; rfl) (by rw [rQPuErr]; exact vQPuErr _ _)
theorem vQNewAl (P : Program) (hs : List (Nat × Nat × List Nat)) : ∀ ins, ins.length = cQNewAl.nin → cQNewAl.pre ins → tQNewAl.sat { cx P [] with hints := hs } (ctrR cQNewAl) ins := by
  rintro ins _ ⟨a, b, n, rfl⟩
  simp only [Tree.sat, Bx.den, Ex.den, Bnd.den, gI, gB, gL, gF, gN, gNil, List.map_cons, List.map_nil, List.cons_append, List.nil_append, List.getElem?_cons_zero, List.getElem?_cons_succ, List.getD, Option.getD_some, cmp_eql_t, cmp_eql_f, cmp_neq_t, cmp_neq_f, cmp_lss_t, cmp_lss_f, cmp_leq_t, cmp_leq_f, cmp_gtr_t, cmp_gtr_f, cmp_geq_t, cmp_geq_f, Bool.not_eq_true', Bool.not_eq_false', Bool.and_eq_true, Bool.and_eq_false_iff, binDen, ctrR, Ctr.may, List.take_succ_cons, List.take_zero, Option.some.injEq, EV.u.injEq, tQNewAl, cx, objs, rallT, rallTObj, cQNewAl, newAl, true_and, and_true, ne_eq, not_true_eq_false, not_false_eq_true, false_implies, true_implies, implies_true, List.append_assoc]
  exact ⟨_, _, _, _, _, _, rfl, .inl rfl⟩
theorem hQNewAl : cQNewAl.Holds objs Try.prog := runCtr_holds (X := { cx Try.prog [] with hints := hsQNewAl }) objsOk mixed noCts (callable _ Try.func89 (by kernel_rfl) (by kernel_rfl)) (by rintro ins _ ⟨_, _, _, rfl⟩; rfl) (by rw [rQNewAl]; exact vQNewAl _ _)
set_option maxHeartbeats 2000000 in
theorem vQAlStep (P : Program) (hs : List (Nat × Nat × List Nat)) : ∀ ins, ins.length = cQAlStep.nin → cQAlStep.pre ins → tQAlStep.sat { cx P ctsKQ with hints := hs } (ctrR cQAlStep) ins := by
  rintro ins _ ⟨p, M, rfl, hp, hM⟩
  simp only [Tree.sat, Bx.den, Ex.den, Bnd.den, gI, gB, gL, gF, gN, gNil, List.map_cons, List.map_nil, List.cons_append, List.nil_append, List.getElem?_cons_zero, List.getElem?_cons_succ, List.getD, Option.getD_some, cmp_eql_t, cmp_eql_f, cmp_neq_t, cmp_neq_f, cmp_lss_t, cmp_lss_f, cmp_leq_t, cmp_leq_f, cmp_gtr_t, cmp_gtr_f, cmp_geq_t, cmp_geq_f, Bool.not_eq_true', Bool.not_eq_false', Bool.and_eq_true, Bool.and_eq_false_iff, binDen, ctrR, Ctr.may, List.take_succ_cons, List.take_zero, Option.some.injEq, EV.u.injEq, tQAlStep, cx, ctsKQ, objs]
  refine ⟨?_, nomore_rall⟩
  rintro ps hl ⟨t, l, s, n, w, i, rfl, hn⟩ he
  injection he with he; subst he
  obtain ⟨g1, g2⟩ := hp
  have q1 := idxW_lo s (M.load t).n
  rcases hn with rfl | ⟨rfl, hi⟩ | rfl
  all_goals
    simp only [Tree.sat, Bx.den, Ex.den, Bnd.den, gI, gB, gL, gF, gN, gNil, List.map_cons, List.map_nil, List.cons_append, List.nil_append, List.getElem?_cons_zero, List.getElem?_cons_succ, List.getD, Option.getD_some, cmp_eql_t, cmp_eql_f, cmp_neq_t, cmp_neq_f, cmp_lss_t, cmp_lss_f, cmp_leq_t, cmp_leq_f, cmp_gtr_t, cmp_gtr_f, cmp_geq_t, cmp_geq_f, Bool.not_eq_true', Bool.not_eq_false', Bool.and_eq_true, Bool.and_eq_false_iff, binDen, ctrR, Ctr.may, List.take_succ_cons, List.take_zero, Option.some.injEq, EV.u.injEq, rallT, rallTObj, cQAlStep, stepAl, fo_load, fo_cas, out_qidx, out_qtop, true_and, and_true, ne_eq, not_true_eq_false, not_false_eq_true, false_implies, true_implies, implies_true, List.append_assoc]
    repeat' (first | with_reducible apply And.intro | intro _)
  all_goals first
    | omega
    | exact fl_load hM
    | exact fl_cas hM
    | exact ⟨_, _, _, _, rfl, n_load hM _⟩
    | exact ⟨_, _, rfl, by decide, by decide, g2⟩
    | exact ⟨_, _, _, _, _, _, rfl, by omega⟩
    | (rename_i h; rw [if_pos h]; rfl)
    | (rename_i h; rw [if_neg (by omega)]; rfl)
    | (rename_i h; simp [h]; done)
    | (rename_i h; simp [show ¬ idxW s (M.load t).n < 0 from by omega]; done)
    | (simp; done)
theorem hQAlStep : cQAlStep.Holds objs Try.prog := runCtr_holds (X := { cx Try.prog ctsKQ with hints := hsQAlStep }) objsOk mixed hctsKQ (callable _ Try.func94 (by kernel_rfl) (by kernel_rfl)) (by rintro ins _ ⟨_, _, rfl, _⟩; rfl) (by rw [rQAlStep]; exact vQAlStep _ _)
set_option maxHeartbeats 1000000 in
theorem vQAlIndex (P : Program) (hs : List (Nat × Nat × List Nat)) : ∀ ins, ins.length = cQAlIndex.nin → cQAlIndex.pre ins → tQAlIndex.sat { cx P [] with hints := hs } (ctrR cQAlIndex) ins := by
  rintro ins _ ⟨p, rfl, hp⟩
  simp only [Tree.sat, Bx.den, Ex.den, Bnd.den, gI, gB, gL, gF, gN, gNil, List.map_cons, List.map_nil, List.cons_append, List.nil_append, List.getElem?_cons_zero, List.getElem?_cons_succ, List.getD, Option.getD_some, cmp_eql_t, cmp_eql_f, cmp_neq_t, cmp_neq_f, cmp_lss_t, cmp_lss_f, cmp_leq_t, cmp_leq_f, cmp_gtr_t, cmp_gtr_f, cmp_geq_t, cmp_geq_f, Bool.not_eq_true', Bool.not_eq_false', Bool.and_eq_true, Bool.and_eq_false_iff, binDen, ctrR, Ctr.may, List.take_succ_cons, List.take_zero, Option.some.injEq, EV.u.injEq, tQAlIndex, cx, objs]
  refine ⟨?_, nomore_rall⟩
  rintro ps hl ⟨t, l, s, n, w, i, rfl, hn⟩ he
  injection he with he; subst he
  simp only [Tree.sat, Bx.den, Ex.den, Bnd.den, gI, gB, gL, gF, gN, gNil, List.map_cons, List.map_nil, List.cons_append, List.nil_append, List.getElem?_cons_zero, List.getElem?_cons_succ, List.getD, Option.getD_some, cmp_eql_t, cmp_eql_f, cmp_neq_t, cmp_neq_f, cmp_lss_t, cmp_lss_f, cmp_leq_t, cmp_leq_f, cmp_gtr_t, cmp_gtr_f, cmp_geq_t, cmp_geq_f, Bool.not_eq_true', Bool.not_eq_false', Bool.and_eq_true, Bool.and_eq_false_iff, binDen, ctrR, Ctr.may, List.take_succ_cons, List.take_zero, Option.some.injEq, EV.u.injEq, rallT, rallTObj, cQAlIndex, toldS, true_and, and_true, ne_eq, not_true_eq_false, not_false_eq_true, false_implies, true_implies, implies_true, List.append_assoc]
  repeat' (first | with_reducible apply And.intro | intro _)
  all_goals first
    | omega
    | exact ⟨_, _, _, _, _, _, rfl, hn⟩
    | (simp [*]; done)
    | (simp [*]; omega)
    | (rw [if_neg (by omega)]; done)
    | (rw [if_pos (by omega), if_neg (by omega)]; done)
    | (rw [if_pos (by omega), if_pos (by omega)]; done)
theorem hQAlIndex : cQAlIndex.Holds objs Try.prog := runCtr_holds (X := { cx Try.prog [] with hints := hsQAlIndex }) objsOk mixed noCts (callable _ Try.func95 (by kernel_rfl) (by kernel_rfl)) (by rintro ins _ ⟨_, rfl, _⟩; rfl) (by rw [rQAlIndex]; exact vQAlIndex _ _)
end Go.Proofs.Ytdabdbbgaekmdaa
