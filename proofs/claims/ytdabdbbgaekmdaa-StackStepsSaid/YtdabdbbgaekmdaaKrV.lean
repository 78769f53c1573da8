/- The document's stacks beside its memory as open blocks: the contracts hold. -/
import Derived.Test.YtdabdbbgaekmdaaKrT
namespace Go.Proofs.Ytdabdbbgaekmdaa
set_option linter.unusedVariables false
set_option linter.unusedSimpArgs false
set_option linter.unusedSectionVars false
open Go Go.RowKit

theorem hctsKR2 : ∀ (ci : Nat) (c : Ctr U), ctsKR2[ci]? = some c → c.Holds objs Try.prog := by
  intro ci c h
  match ci, h with
  | 0, h => cases h; exact hRLoad
  | 1, h => cases h; exact hRStore
  | 2, h => cases h; exact hRCAS
  | 3, h => cases h; exact hRAt
  | 4, h => cases h; exact hQIdx
  | 5, h => cases h; exact hQTop
  | n + 6, h => cases h
theorem gl_load {M : MemSt} (h : M.fine) {x : Int} : cRLoad.pre [.l M.W, .i M.W.length, .i M.k, .i M.a, .i M.o, .i M.n, .b M.h, .i M.N, .i x] := ⟨_, _, rfl, h.1⟩
theorem gl_store {M : MemSt} (h : M.fine) {x y : Int} : cRStore.pre [.l M.W, .i M.W.length, .i M.k, .i M.a, .i M.o, .i M.n, .b M.h, .i M.N, .i x, .i y] := ⟨_, _, _, rfl, h.1⟩
theorem gl_cas {M : MemSt} (h : M.fine) {x y z : Int} : cRCAS.pre [.l M.W, .i M.W.length, .i M.k, .i M.a, .i M.o, .i M.n, .b M.h, .i M.N, .i x, .i y, .i z] := ⟨_, _, _, _, rfl, h.1⟩
theorem gl_at {M : MemSt} (h : M.fine) {x : Int} : cRAt.pre [.l M.W, .i M.W.length, .i M.k, .i M.a, .i M.o, .i M.n, .b M.h, .i M.N, .i x] := ⟨_, _, rfl, h.1⟩
theorem go_load (M : MemSt) (x : Int) : cRLoad.out [.l M.W, .i M.W.length, .i M.k, .i M.a, .i M.o, .i M.n, .b M.h, .i M.N, .i x] = [.l (M.load x).W, .i (M.load x).W.length, .i (M.load x).k, .i (M.load x).a, .i (M.load x).o, .i (M.load x).n, .b (M.load x).h, .i (M.load x).N, .i (M.load x).n] := rfl
theorem go_store (M : MemSt) (x y : Int) : cRStore.out [.l M.W, .i M.W.length, .i M.k, .i M.a, .i M.o, .i M.n, .b M.h, .i M.N, .i x, .i y] = [.l (M.store x y).W, .i (M.store x y).W.length, .i (M.store x y).k, .i (M.store x y).a, .i (M.store x y).o, .i (M.store x y).n, .b (M.store x y).h, .i (M.store x y).N] := rfl
theorem go_cas (M : MemSt) (x y z : Int) : cRCAS.out [.l M.W, .i M.W.length, .i M.k, .i M.a, .i M.o, .i M.n, .b M.h, .i M.N, .i x, .i y, .i z] = [.l (M.cas x y z).W, .i (M.cas x y z).W.length, .i (M.cas x y z).k, .i (M.cas x y z).a, .i (M.cas x y z).o, .i (M.cas x y z).n, .b (M.cas x y z).h, .i (M.cas x y z).N, .b (M.cas x y z).h] := rfl
theorem go_at (M : MemSt) (x : Int) : cRAt.out [.l M.W, .i M.W.length, .i M.k, .i M.a, .i M.o, .i M.n, .b M.h, .i M.N, .i x] = [.l M.W, .i M.W.length, .i M.k, .i M.a, .i M.o, .i M.n, .b M.h, .i M.N, .i (M.at0 x)] := rfl

/-! ### Fill -/
set_option maxHeartbeats 1000000 in
theorem vRSFill (P : Program) (hs : List (Nat × Nat × List Nat)) : ∀ ins, ins.length = cRSFill.nin → cRSFill.pre ins → tRSFill.sat { cxKR2 P lRSFill with hints := hs } (ctrR cRSFill) ins := by
  have hb : ∀ env, rsFillInv env → tRSFillL0.sat { cxKR2 P lRSFill with hints := hs } (ctrR cRSFill) env := by
    rintro env ⟨M, a, b, n, x0, x1, x2, x3, x4, x5, x6, x7, i, rfl, h1, h2, h4, h5⟩
    have e0 : IntKind.i64.wrap (i + 1) = i + 1 := wrap_small (by omega) (by omega)
    have e1 : IntKind.i64.wrap (i + 2) = i + 2 := wrap_small (by omega) (by omega)
    have e2 : IntKind.u64.wrap (i + 2) = i + 2 := u64_small (by omega) (by omega)
    have e3 : IntKind.i64.wrap (n - 1) = n - 1 := wrap_small (by omega) (by omega)
    have hf : (fillK M a b n i.toNat).fine := fine_fillK h5 _ _ _ _ (by omega)
    simp only [rmR, List.cons_append, List.nil_append]
    unfold tRSFillL0
    repeat' (first
      | (first
        | (with_reducible refine st_need ?_ ?_
           focus (simp only [Bx.den, Ex.den, Bnd.den, gI, gB, gL, gF, gN, gNil, List.map_cons, List.map_nil, List.cons_append, List.nil_append, List.getElem?_cons_zero, List.getElem?_cons_succ, List.getD, Option.getD_some, cmp_eql_t, cmp_eql_f, cmp_neq_t, cmp_neq_f, cmp_lss_t, cmp_lss_f, cmp_leq_t, cmp_leq_f, cmp_gtr_t, cmp_gtr_f, cmp_geq_t, cmp_geq_f, Bool.not_eq_true', Bool.not_eq_false', Bool.and_eq_true, Bool.and_eq_false_iff, binDen, Option.some.injEq, EV.u.injEq, Nil.isNil, beq_self_eq_true, and_self, true_and, and_true, or_false, false_or, or_self, not_true_eq_false, not_false_eq_true, ne_eq, Bool.true_eq_false, Bool.false_eq_true, reduceCtorEq, e0, e1, e2, e3, i64_pred] <;> first | omega | assumption))
        | (with_reducible refine st_and ?_ ?_)
        | (with_reducible exact st_ok)
        | (with_reducible refine st_br (fun hc => ?_) (fun hc => ?_) <;> (simp only [Bx.den, Ex.den, Bnd.den, gI, gB, gL, gF, gN, gNil, List.map_cons, List.map_nil, List.cons_append, List.nil_append, List.getElem?_cons_zero, List.getElem?_cons_succ, List.getD, Option.getD_some, cmp_eql_t, cmp_eql_f, cmp_neq_t, cmp_neq_f, cmp_lss_t, cmp_lss_f, cmp_leq_t, cmp_leq_f, cmp_gtr_t, cmp_gtr_f, cmp_geq_t, cmp_geq_f, Bool.not_eq_true', Bool.not_eq_false', Bool.and_eq_true, Bool.and_eq_false_iff, binDen, Option.some.injEq, EV.u.injEq, Nil.isNil, beq_self_eq_true, and_self, true_and, and_true, or_false, false_or, or_self, not_true_eq_false, not_false_eq_true, ne_eq, Bool.true_eq_false, Bool.false_eq_true, reduceCtorEq, e0, e1, e2, e3, i64_pred] at hc) <;> (try (exfalso; first | contradiction | omega)))
        | (refine st_call (by rfl) (by simp only [Bx.den, Ex.den, Bnd.den, gI, gB, gL, gF, gN, gNil, List.map_cons, List.map_nil, List.cons_append, List.nil_append, List.getElem?_cons_zero, List.getElem?_cons_succ, List.getD, Option.getD_some, cmp_eql_t, cmp_eql_f, cmp_neq_t, cmp_neq_f, cmp_lss_t, cmp_lss_f, cmp_leq_t, cmp_leq_f, cmp_gtr_t, cmp_gtr_f, cmp_geq_t, cmp_geq_f, Bool.not_eq_true', Bool.not_eq_false', Bool.and_eq_true, Bool.and_eq_false_iff, binDen, Option.some.injEq, EV.u.injEq, Nil.isNil, beq_self_eq_true, and_self, true_and, and_true, or_false, false_or, or_self, not_true_eq_false, not_false_eq_true, ne_eq, Bool.true_eq_false, Bool.false_eq_true, reduceCtorEq, e0, e1, e2, e3, i64_pred] <;> rfl) ?_ (by simp only [go_store] <;> rfl) (by simp only [List.cons_append, List.nil_append] <;> rfl) ?_
           focus (first | exact gl_store hf))
        | (with_reducible refine st_ret (by simp only [Bx.den, Ex.den, Bnd.den, gI, gB, gL, gF, gN, gNil, List.map_cons, List.map_nil, List.cons_append, List.nil_append, List.getElem?_cons_zero, List.getElem?_cons_succ, List.getD, Option.getD_some, cmp_eql_t, cmp_eql_f, cmp_neq_t, cmp_neq_f, cmp_lss_t, cmp_lss_f, cmp_leq_t, cmp_leq_f, cmp_gtr_t, cmp_gtr_f, cmp_geq_t, cmp_geq_f, Bool.not_eq_true', Bool.not_eq_false', Bool.and_eq_true, Bool.and_eq_false_iff, binDen, Option.some.injEq, EV.u.injEq, Nil.isNil, beq_self_eq_true, and_self, true_and, and_true, or_false, false_or, or_self, not_true_eq_false, not_false_eq_true, ne_eq, Bool.true_eq_false, Bool.false_eq_true, reduceCtorEq, e0, e1, e2, e3, i64_pred] <;> rfl) ?_
           (first | rfl | exact ⟨_, rfl⟩)))
      | (refine st_back (by rfl) (by simp only [Bx.den, Ex.den, Bnd.den, gI, gB, gL, gF, gN, gNil, List.map_cons, List.map_nil, List.cons_append, List.nil_append, List.getElem?_cons_zero, List.getElem?_cons_succ, List.getD, Option.getD_some, cmp_eql_t, cmp_eql_f, cmp_neq_t, cmp_neq_f, cmp_lss_t, cmp_lss_f, cmp_leq_t, cmp_leq_f, cmp_gtr_t, cmp_gtr_f, cmp_geq_t, cmp_geq_f, Bool.not_eq_true', Bool.not_eq_false', Bool.and_eq_true, Bool.and_eq_false_iff, binDen, Option.some.injEq, EV.u.injEq, Nil.isNil, beq_self_eq_true, and_self, true_and, and_true, or_false, false_or, or_self, not_true_eq_false, not_false_eq_true, ne_eq, Bool.true_eq_false, Bool.false_eq_true, reduceCtorEq, e0, e1, e2, e3, i64_pred] <;> rfl) (by simp only [List.take_succ_cons, List.take_zero] <;> rfl) (by rfl) ?_ ?_
         focus (refine ⟨M, a, b, n, x0, x1, x2, x3, x4, x5, x6, x7, i + 1, ?_, by omega, by omega, h4, h5⟩
                rw [fillK_succ _ _ _ _ h1, if_neg (by omega)]; rfl)
         focus (show (n - (i + 1)).toNat < (n - i).toNat; omega))
      | (refine st_ret (by simp only [Bx.den, Ex.den, Bnd.den, gI, gB, gL, gF, gN, gNil, List.map_cons, List.map_nil, List.cons_append, List.nil_append, List.getElem?_cons_zero, List.getElem?_cons_succ, List.getD, Option.getD_some, cmp_eql_t, cmp_eql_f, cmp_neq_t, cmp_neq_f, cmp_lss_t, cmp_lss_f, cmp_leq_t, cmp_leq_f, cmp_gtr_t, cmp_gtr_f, cmp_geq_t, cmp_geq_f, Bool.not_eq_true', Bool.not_eq_false', Bool.and_eq_true, Bool.and_eq_false_iff, binDen, Option.some.injEq, EV.u.injEq, Nil.isNil, beq_self_eq_true, and_self, true_and, and_true, or_false, false_or, or_self, not_true_eq_false, not_false_eq_true, ne_eq, Bool.true_eq_false, Bool.false_eq_true, reduceCtorEq, e0] <;> rfl) ?_
         have hi : n = i + 1 := by omega
         subst hi
         show _ = rmR (fillSt M a b (i + 1))
         rw [fillSt, if_pos ⟨by omega, h4⟩, fillK_succ _ _ _ _ h1, if_pos rfl, show b + (i + 1) - 1 = b + i by omega]; rfl)
      | fail "no step")
  rintro ins _ ⟨M, a, b, n, rfl, h5⟩
  simp only [rmR, List.cons_append, List.nil_append]
  unfold tRSFill
  repeat' (first
    | (first
      | (with_reducible refine st_need ?_ ?_
         focus (simp only [Bx.den, Ex.den, Bnd.den, gI, gB, gL, gF, gN, gNil, List.map_cons, List.map_nil, List.cons_append, List.nil_append, List.getElem?_cons_zero, List.getElem?_cons_succ, List.getD, Option.getD_some, cmp_eql_t, cmp_eql_f, cmp_neq_t, cmp_neq_f, cmp_lss_t, cmp_lss_f, cmp_leq_t, cmp_leq_f, cmp_gtr_t, cmp_gtr_f, cmp_geq_t, cmp_geq_f, Bool.not_eq_true', Bool.not_eq_false', Bool.and_eq_true, Bool.and_eq_false_iff, binDen, Option.some.injEq, EV.u.injEq, Nil.isNil, beq_self_eq_true, and_self, true_and, and_true, or_false, false_or, or_self, not_true_eq_false, not_false_eq_true, ne_eq, Bool.true_eq_false, Bool.false_eq_true, reduceCtorEq, hb] <;> first | omega | assumption))
      | (with_reducible refine st_and ?_ ?_)
      | (with_reducible exact st_ok)
      | (with_reducible refine st_br (fun hc => ?_) (fun hc => ?_) <;> (simp only [Bx.den, Ex.den, Bnd.den, gI, gB, gL, gF, gN, gNil, List.map_cons, List.map_nil, List.cons_append, List.nil_append, List.getElem?_cons_zero, List.getElem?_cons_succ, List.getD, Option.getD_some, cmp_eql_t, cmp_eql_f, cmp_neq_t, cmp_neq_f, cmp_lss_t, cmp_lss_f, cmp_leq_t, cmp_leq_f, cmp_gtr_t, cmp_gtr_f, cmp_geq_t, cmp_geq_f, Bool.not_eq_true', Bool.not_eq_false', Bool.and_eq_true, Bool.and_eq_false_iff, binDen, Option.some.injEq, EV.u.injEq, Nil.isNil, beq_self_eq_true, and_self, true_and, and_true, or_false, false_or, or_self, not_true_eq_false, not_false_eq_true, ne_eq, Bool.true_eq_false, Bool.false_eq_true, reduceCtorEq, hb] at hc) <;> (try (exfalso; first | contradiction | omega)))
      | (refine st_call (by rfl) (by simp only [Bx.den, Ex.den, Bnd.den, gI, gB, gL, gF, gN, gNil, List.map_cons, List.map_nil, List.cons_append, List.nil_append, List.getElem?_cons_zero, List.getElem?_cons_succ, List.getD, Option.getD_some, cmp_eql_t, cmp_eql_f, cmp_neq_t, cmp_neq_f, cmp_lss_t, cmp_lss_f, cmp_leq_t, cmp_leq_f, cmp_gtr_t, cmp_gtr_f, cmp_geq_t, cmp_geq_f, Bool.not_eq_true', Bool.not_eq_false', Bool.and_eq_true, Bool.and_eq_false_iff, binDen, Option.some.injEq, EV.u.injEq, Nil.isNil, beq_self_eq_true, and_self, true_and, and_true, or_false, false_or, or_self, not_true_eq_false, not_false_eq_true, ne_eq, Bool.true_eq_false, Bool.false_eq_true, reduceCtorEq, hb] <;> rfl) ?_ (by simp only [go_store] <;> rfl) (by simp only [List.cons_append, List.nil_append] <;> rfl) ?_
         focus (first | exact gl_store h5))
      | (with_reducible refine st_ret (by simp only [Bx.den, Ex.den, Bnd.den, gI, gB, gL, gF, gN, gNil, List.map_cons, List.map_nil, List.cons_append, List.nil_append, List.getElem?_cons_zero, List.getElem?_cons_succ, List.getD, Option.getD_some, cmp_eql_t, cmp_eql_f, cmp_neq_t, cmp_neq_f, cmp_lss_t, cmp_lss_f, cmp_leq_t, cmp_leq_f, cmp_gtr_t, cmp_gtr_f, cmp_geq_t, cmp_geq_f, Bool.not_eq_true', Bool.not_eq_false', Bool.and_eq_true, Bool.and_eq_false_iff, binDen, Option.some.injEq, EV.u.injEq, Nil.isNil, beq_self_eq_true, and_self, true_and, and_true, or_false, false_or, or_self, not_true_eq_false, not_false_eq_true, ne_eq, Bool.true_eq_false, Bool.false_eq_true, reduceCtorEq, hb] <;> rfl) ?_
         (first | rfl | exact ⟨_, rfl⟩)))
    | (refine st_loop (by rfl) (by simp only [Bx.den, Ex.den, Bnd.den, gI, gB, gL, gF, gN, gNil, List.map_cons, List.map_nil, List.cons_append, List.nil_append, List.getElem?_cons_zero, List.getElem?_cons_succ, List.getD, Option.getD_some, cmp_eql_t, cmp_eql_f, cmp_neq_t, cmp_neq_f, cmp_lss_t, cmp_lss_f, cmp_leq_t, cmp_leq_f, cmp_gtr_t, cmp_gtr_f, cmp_geq_t, cmp_geq_f, Bool.not_eq_true', Bool.not_eq_false', Bool.and_eq_true, Bool.and_eq_false_iff, binDen, Option.some.injEq, EV.u.injEq, Nil.isNil, beq_self_eq_true, and_self, true_and, and_true, or_false, false_or, or_self, not_true_eq_false, not_false_eq_true, ne_eq, Bool.true_eq_false, Bool.false_eq_true, reduceCtorEq, hb] <;> rfl) (by simp only [List.take_succ_cons, List.take_zero] <;> rfl) ?_ (fun env' h => hb env' h)
       exact ⟨M, a, b, n, _, _, _, _, _, _, _, _, 0, rfl, by omega, by omega, by omega, h5⟩)
    | (refine st_ret (by simp only [Bx.den, Ex.den, Bnd.den, gI, gB, gL, gF, gN, gNil, List.map_cons, List.map_nil, List.cons_append, List.nil_append, List.getElem?_cons_zero, List.getElem?_cons_succ, List.getD, Option.getD_some, cmp_eql_t, cmp_eql_f, cmp_neq_t, cmp_neq_f, cmp_lss_t, cmp_lss_f, cmp_leq_t, cmp_leq_f, cmp_gtr_t, cmp_gtr_f, cmp_geq_t, cmp_geq_f, Bool.not_eq_true', Bool.not_eq_false', Bool.and_eq_true, Bool.and_eq_false_iff, binDen, Option.some.injEq, EV.u.injEq, Nil.isNil, beq_self_eq_true, and_self, true_and, and_true, or_false, false_or, or_self, not_true_eq_false, not_false_eq_true, ne_eq, Bool.true_eq_false, Bool.false_eq_true, reduceCtorEq, hb] <;> rfl) ?_
       show _ = rmR (fillSt M a b n)
       rw [fillSt, if_neg (by omega)]; rfl)
    | fail "no step")
theorem hRSFill : cRSFill.Holds objs Try.prog := runCtr_holds (X := { cxKR2 Try.prog lRSFill with hints := hsRSFill }) objsOk mixed hctsKR2 (callable _ Try.func85 (by kernel_rfl) (by kernel_rfl)) (by rintro ins _ ⟨_, _, _, _, rfl, _⟩; rfl) (by rw [rRSFill]; exact vRSFill _ _)

/-! ### Chain -/
theorem rchain_next {M : MemSt} {a b n i k c : Int} {xs r : List Int} {x0 x1 x2 x3 x4 x5 x6 x7 x8 x9 : EV U} {j : Int} (hM : M.fine) (hn : n ≤ 4096) (h1 : 0 ≤ k) (h3 : c = xs.length) (h4 : k ≤ c) (h5 : xs.take k.toNat ++ chainL M b n (n.toNat - k.toNat) i = chainS M a b n) (hi : 0 ≤ i) (hk : k < n) (hj : j = idxW n (M.at0 (IntKind.i64.wrap (b + i)))) :
    rChainInv (rmR M ++ [.i a, .i b, .i n, x0, x1, x2, x3, x4, x5, x6, x7, x8, x9] ++ rmR M ++ [.i j, .i (IntKind.i64.wrap (k + 1)), .l (xs.take k.toNat ++ i :: r), .i ((k.toNat + 1 + r.length : Nat) : Int)]) := by
  rw [wrap_small (n := k + 1) (by omega) (by omega)]
  refine ⟨M, a, b, n, _, _, _, _, _, _, _, _, _, _, j, k + 1, _, _, rfl, hM, hn, by omega, by omega, by rw [len_app (by omega)], by omega, ?_, ?_⟩
  · rw [chain_step hi (by omega)] at h5
    rw [toNat_succ h1, take_app rfl (by omega), ← h5, hj, List.append_assoc]; rfl
  · rw [hj]; exact idxW_hi _ _
set_option maxHeartbeats 2000000 in
theorem vRChain (P : Program) (hs : List (Nat × Nat × List Nat)) : ∀ ins, ins.length = cRChain.nin → cRChain.pre ins → tRChain.sat { cxKR2 P lRChain with hints := hs } (ctrR cRChain) ins := by
  have hb : ∀ env, rChainInv env → tRChainL0.sat { cxKR2 P lRChain with hints := hs } (ctrR cRChain) env := by
    rintro env ⟨M, a, b, n, x0, x1, x2, x3, x4, x5, x6, x7, x8, x9, i, k, xs, c, rfl, hM, hn, h1, h2, h3, h4, h5, h6⟩
    simp only [rmR, List.cons_append, List.nil_append]
    unfold tRChainL0
    repeat' (first
      | (first
        | (with_reducible refine st_need ?_ ?_
           focus (simp only [Bx.den, Ex.den, Bnd.den, gI, gB, gL, gF, gN, gNil, List.map_cons, List.map_nil, List.cons_append, List.nil_append, List.getElem?_cons_zero, List.getElem?_cons_succ, List.getD, Option.getD_some, cmp_eql_t, cmp_eql_f, cmp_neq_t, cmp_neq_f, cmp_lss_t, cmp_lss_f, cmp_leq_t, cmp_leq_f, cmp_gtr_t, cmp_gtr_f, cmp_geq_t, cmp_geq_f, Bool.not_eq_true', Bool.not_eq_false', Bool.and_eq_true, Bool.and_eq_false_iff, binDen, Option.some.injEq, EV.u.injEq, Nil.isNil, beq_self_eq_true, and_self, true_and, and_true, or_false, false_or, or_self, not_true_eq_false, not_false_eq_true, ne_eq, Bool.true_eq_false, Bool.false_eq_true, reduceCtorEq, h3] <;> first | omega | assumption))
        | (with_reducible refine st_and ?_ ?_)
        | (with_reducible exact st_ok)
        | (with_reducible refine st_br (fun hc => ?_) (fun hc => ?_) <;> (simp only [Bx.den, Ex.den, Bnd.den, gI, gB, gL, gF, gN, gNil, List.map_cons, List.map_nil, List.cons_append, List.nil_append, List.getElem?_cons_zero, List.getElem?_cons_succ, List.getD, Option.getD_some, cmp_eql_t, cmp_eql_f, cmp_neq_t, cmp_neq_f, cmp_lss_t, cmp_lss_f, cmp_leq_t, cmp_leq_f, cmp_gtr_t, cmp_gtr_f, cmp_geq_t, cmp_geq_f, Bool.not_eq_true', Bool.not_eq_false', Bool.and_eq_true, Bool.and_eq_false_iff, binDen, Option.some.injEq, EV.u.injEq, Nil.isNil, beq_self_eq_true, and_self, true_and, and_true, or_false, false_or, or_self, not_true_eq_false, not_false_eq_true, ne_eq, Bool.true_eq_false, Bool.false_eq_true, reduceCtorEq, h3] at hc) <;> (try (exfalso; first | contradiction | omega)))
        | (refine st_call (by rfl) (by simp only [Bx.den, Ex.den, Bnd.den, gI, gB, gL, gF, gN, gNil, List.map_cons, List.map_nil, List.cons_append, List.nil_append, List.getElem?_cons_zero, List.getElem?_cons_succ, List.getD, Option.getD_some, cmp_eql_t, cmp_eql_f, cmp_neq_t, cmp_neq_f, cmp_lss_t, cmp_lss_f, cmp_leq_t, cmp_leq_f, cmp_gtr_t, cmp_gtr_f, cmp_geq_t, cmp_geq_f, Bool.not_eq_true', Bool.not_eq_false', Bool.and_eq_true, Bool.and_eq_false_iff, binDen, Option.some.injEq, EV.u.injEq, Nil.isNil, beq_self_eq_true, and_self, true_and, and_true, or_false, false_or, or_self, not_true_eq_false, not_false_eq_true, ne_eq, Bool.true_eq_false, Bool.false_eq_true, reduceCtorEq, h3] <;> rfl) ?_ (by simp only [out_qidx, go_at] <;> rfl) (by simp only [List.cons_append, List.nil_append] <;> rfl) ?_
           focus (first | exact gl_at hM | exact ⟨_, _, _, _, rfl, fine_at0 hM _⟩))
        | (with_reducible refine st_ret (by simp only [Bx.den, Ex.den, Bnd.den, gI, gB, gL, gF, gN, gNil, List.map_cons, List.map_nil, List.cons_append, List.nil_append, List.getElem?_cons_zero, List.getElem?_cons_succ, List.getD, Option.getD_some, cmp_eql_t, cmp_eql_f, cmp_neq_t, cmp_neq_f, cmp_lss_t, cmp_lss_f, cmp_leq_t, cmp_leq_f, cmp_gtr_t, cmp_gtr_f, cmp_geq_t, cmp_geq_f, Bool.not_eq_true', Bool.not_eq_false', Bool.and_eq_true, Bool.and_eq_false_iff, binDen, Option.some.injEq, EV.u.injEq, Nil.isNil, beq_self_eq_true, and_self, true_and, and_true, or_false, false_or, or_self, not_true_eq_false, not_false_eq_true, ne_eq, Bool.true_eq_false, Bool.false_eq_true, reduceCtorEq, h3] <;> rfl) ?_
           (first | rfl | exact ⟨_, rfl⟩)))
      | (refine st_app (by rfl) (by simp only [Bx.den, Ex.den, Bnd.den, gI, gB, gL, gF, gN, gNil, List.map_cons, List.map_nil, List.cons_append, List.nil_append, List.getElem?_cons_zero, List.getElem?_cons_succ, List.getD, Option.getD_some, cmp_eql_t, cmp_eql_f, cmp_neq_t, cmp_neq_f, cmp_lss_t, cmp_lss_f, cmp_leq_t, cmp_leq_f, cmp_gtr_t, cmp_gtr_f, cmp_geq_t, cmp_geq_f, Bool.not_eq_true', Bool.not_eq_false', Bool.and_eq_true, Bool.and_eq_false_iff, binDen, Option.some.injEq, EV.u.injEq, Nil.isNil, beq_self_eq_true, and_self, true_and, and_true, or_false, false_or, or_self, not_true_eq_false, not_false_eq_true, ne_eq, Bool.true_eq_false, Bool.false_eq_true, reduceCtorEq, h3] <;> rfl) (by simp only [Bx.den, Ex.den, Bnd.den, gI, gB, gL, gF, gN, gNil, List.map_cons, List.map_nil, List.cons_append, List.nil_append, List.getElem?_cons_zero, List.getElem?_cons_succ, List.getD, Option.getD_some, cmp_eql_t, cmp_eql_f, cmp_neq_t, cmp_neq_f, cmp_lss_t, cmp_lss_f, cmp_leq_t, cmp_leq_f, cmp_gtr_t, cmp_gtr_f, cmp_geq_t, cmp_geq_f, Bool.not_eq_true', Bool.not_eq_false', Bool.and_eq_true, Bool.and_eq_false_iff, binDen, Option.some.injEq, EV.u.injEq, Nil.isNil, beq_self_eq_true, and_self, true_and, and_true, or_false, false_or, or_self, not_true_eq_false, not_false_eq_true, ne_eq, Bool.true_eq_false, Bool.false_eq_true, reduceCtorEq, h3] <;> rfl) (fun rr env' he => ?_)
         simp only [List.cons_append, List.nil_append] at he
         subst he)
      | (refine st_rng (fun LL env' he => ?_)
         simp only [List.cons_append, List.nil_append] at he
         subst he)
      | (refine st_lst (by simp only [List.map_cons, List.map_nil, List.cons_append, List.nil_append] <;> rfl) ?_)
      | (refine st_back (by rfl) (by simp only [Bx.den, Ex.den, Bnd.den, gI, gB, gL, gF, gN, gNil, List.map_cons, List.map_nil, List.cons_append, List.nil_append, List.getElem?_cons_zero, List.getElem?_cons_succ, List.getD, Option.getD_some, cmp_eql_t, cmp_eql_f, cmp_neq_t, cmp_neq_f, cmp_lss_t, cmp_lss_f, cmp_leq_t, cmp_leq_f, cmp_gtr_t, cmp_gtr_f, cmp_geq_t, cmp_geq_f, Bool.not_eq_true', Bool.not_eq_false', Bool.and_eq_true, Bool.and_eq_false_iff, binDen, Option.some.injEq, EV.u.injEq, Nil.isNil, beq_self_eq_true, and_self, true_and, and_true, or_false, false_or, or_self, not_true_eq_false, not_false_eq_true, ne_eq, Bool.true_eq_false, Bool.false_eq_true, reduceCtorEq, h3] <;> rfl) (by simp only [List.take_succ_cons, List.take_zero] <;> rfl) (by rfl) ?_ ?_
         focus (exact rchain_next hM hn h1 h3 h4 h5 (by omega) (by omega) rfl)
         focus (rw [wrap_small (n := k + 1) (by omega) (by omega)]; show (n - (k + 1)).toNat < (n - k).toNat; omega))
      | (refine st_ret (by simp only [Bx.den, Ex.den, Bnd.den, gI, gB, gL, gF, gN, gNil, List.map_cons, List.map_nil, List.cons_append, List.nil_append, List.getElem?_cons_zero, List.getElem?_cons_succ, List.getD, Option.getD_some, cmp_eql_t, cmp_eql_f, cmp_neq_t, cmp_neq_f, cmp_lss_t, cmp_lss_f, cmp_leq_t, cmp_leq_f, cmp_gtr_t, cmp_gtr_f, cmp_geq_t, cmp_geq_f, Bool.not_eq_true', Bool.not_eq_false', Bool.and_eq_true, Bool.and_eq_false_iff, binDen, Option.some.injEq, EV.u.injEq, Nil.isNil, beq_self_eq_true, and_self, true_and, and_true, or_false, false_or, or_self, not_true_eq_false, not_false_eq_true, ne_eq, Bool.true_eq_false, Bool.false_eq_true, reduceCtorEq, h3] <;> rfl) ?_
         have hce : chainL M b n (n.toNat - k.toNat) i = [] := chain_end (by omega)
         rw [hce, List.append_nil] at h5
         obtain ⟨rr, hr⟩ := split_at h5
         refine Exists.intro rr ?_
         have hlen : (chainS M a b n).length = k.toNat := by rw [← h5, List.length_take]; omega
         show _ = rmR M ++ [EV.l (chainS M a b n ++ rr), EV.i ((chainS M a b n).length : Int), EV.i (((chainS M a b n).length + rr.length : Nat) : Int)]
         have hx : xs.length = k.toNat + rr.length := by rw [hr, List.length_append, hlen]
         rw [← hr, hlen, ← hx, show ((k.toNat : Nat) : Int) = k by omega, ← h3]
         first | done | rfl)
      | fail "no step")
  rintro ins _ ⟨M, a, b, n, rfl, hM, hn⟩
  simp only [rmR, List.cons_append, List.nil_append]
  unfold tRChain
  repeat' (first
    | (first
      | (with_reducible refine st_need ?_ ?_
         focus (simp only [Bx.den, Ex.den, Bnd.den, gI, gB, gL, gF, gN, gNil, List.map_cons, List.map_nil, List.cons_append, List.nil_append, List.getElem?_cons_zero, List.getElem?_cons_succ, List.getD, Option.getD_some, cmp_eql_t, cmp_eql_f, cmp_neq_t, cmp_neq_f, cmp_lss_t, cmp_lss_f, cmp_leq_t, cmp_leq_f, cmp_gtr_t, cmp_gtr_f, cmp_geq_t, cmp_geq_f, Bool.not_eq_true', Bool.not_eq_false', Bool.and_eq_true, Bool.and_eq_false_iff, binDen, Option.some.injEq, EV.u.injEq, Nil.isNil, beq_self_eq_true, and_self, true_and, and_true, or_false, false_or, or_self, not_true_eq_false, not_false_eq_true, ne_eq, Bool.true_eq_false, Bool.false_eq_true, reduceCtorEq, hn] <;> first | omega | assumption))
      | (with_reducible refine st_and ?_ ?_)
      | (with_reducible exact st_ok)
      | (with_reducible refine st_br (fun hc => ?_) (fun hc => ?_) <;> (simp only [Bx.den, Ex.den, Bnd.den, gI, gB, gL, gF, gN, gNil, List.map_cons, List.map_nil, List.cons_append, List.nil_append, List.getElem?_cons_zero, List.getElem?_cons_succ, List.getD, Option.getD_some, cmp_eql_t, cmp_eql_f, cmp_neq_t, cmp_neq_f, cmp_lss_t, cmp_lss_f, cmp_leq_t, cmp_leq_f, cmp_gtr_t, cmp_gtr_f, cmp_geq_t, cmp_geq_f, Bool.not_eq_true', Bool.not_eq_false', Bool.and_eq_true, Bool.and_eq_false_iff, binDen, Option.some.injEq, EV.u.injEq, Nil.isNil, beq_self_eq_true, and_self, true_and, and_true, or_false, false_or, or_self, not_true_eq_false, not_false_eq_true, ne_eq, Bool.true_eq_false, Bool.false_eq_true, reduceCtorEq, hn] at hc) <;> (try (exfalso; first | contradiction | omega)))
      | (refine st_call (by rfl) (by simp only [Bx.den, Ex.den, Bnd.den, gI, gB, gL, gF, gN, gNil, List.map_cons, List.map_nil, List.cons_append, List.nil_append, List.getElem?_cons_zero, List.getElem?_cons_succ, List.getD, Option.getD_some, cmp_eql_t, cmp_eql_f, cmp_neq_t, cmp_neq_f, cmp_lss_t, cmp_lss_f, cmp_leq_t, cmp_leq_f, cmp_gtr_t, cmp_gtr_f, cmp_geq_t, cmp_geq_f, Bool.not_eq_true', Bool.not_eq_false', Bool.and_eq_true, Bool.and_eq_false_iff, binDen, Option.some.injEq, EV.u.injEq, Nil.isNil, beq_self_eq_true, and_self, true_and, and_true, or_false, false_or, or_self, not_true_eq_false, not_false_eq_true, ne_eq, Bool.true_eq_false, Bool.false_eq_true, reduceCtorEq, hn] <;> rfl) ?_ (by simp only [out_qidx, go_at] <;> rfl) (by simp only [List.cons_append, List.nil_append] <;> rfl) ?_
         focus (first | exact gl_at hM | exact ⟨_, _, _, _, rfl, fine_at0 hM _⟩))
      | (with_reducible refine st_ret (by simp only [Bx.den, Ex.den, Bnd.den, gI, gB, gL, gF, gN, gNil, List.map_cons, List.map_nil, List.cons_append, List.nil_append, List.getElem?_cons_zero, List.getElem?_cons_succ, List.getD, Option.getD_some, cmp_eql_t, cmp_eql_f, cmp_neq_t, cmp_neq_f, cmp_lss_t, cmp_lss_f, cmp_leq_t, cmp_leq_f, cmp_gtr_t, cmp_gtr_f, cmp_geq_t, cmp_geq_f, Bool.not_eq_true', Bool.not_eq_false', Bool.and_eq_true, Bool.and_eq_false_iff, binDen, Option.some.injEq, EV.u.injEq, Nil.isNil, beq_self_eq_true, and_self, true_and, and_true, or_false, false_or, or_self, not_true_eq_false, not_false_eq_true, ne_eq, Bool.true_eq_false, Bool.false_eq_true, reduceCtorEq, hn] <;> rfl) ?_
         (first | rfl | exact ⟨_, rfl⟩)))
    | (refine st_app (by rfl) (by simp only [Bx.den, Ex.den, Bnd.den, gI, gB, gL, gF, gN, gNil, List.map_cons, List.map_nil, List.cons_append, List.nil_append, List.getElem?_cons_zero, List.getElem?_cons_succ, List.getD, Option.getD_some, cmp_eql_t, cmp_eql_f, cmp_neq_t, cmp_neq_f, cmp_lss_t, cmp_lss_f, cmp_leq_t, cmp_leq_f, cmp_gtr_t, cmp_gtr_f, cmp_geq_t, cmp_geq_f, Bool.not_eq_true', Bool.not_eq_false', Bool.and_eq_true, Bool.and_eq_false_iff, binDen, Option.some.injEq, EV.u.injEq, Nil.isNil, beq_self_eq_true, and_self, true_and, and_true, or_false, false_or, or_self, not_true_eq_false, not_false_eq_true, ne_eq, Bool.true_eq_false, Bool.false_eq_true, reduceCtorEq, hn] <;> rfl) (by simp only [Bx.den, Ex.den, Bnd.den, gI, gB, gL, gF, gN, gNil, List.map_cons, List.map_nil, List.cons_append, List.nil_append, List.getElem?_cons_zero, List.getElem?_cons_succ, List.getD, Option.getD_some, cmp_eql_t, cmp_eql_f, cmp_neq_t, cmp_neq_f, cmp_lss_t, cmp_lss_f, cmp_leq_t, cmp_leq_f, cmp_gtr_t, cmp_gtr_f, cmp_geq_t, cmp_geq_f, Bool.not_eq_true', Bool.not_eq_false', Bool.and_eq_true, Bool.and_eq_false_iff, binDen, Option.some.injEq, EV.u.injEq, Nil.isNil, beq_self_eq_true, and_self, true_and, and_true, or_false, false_or, or_self, not_true_eq_false, not_false_eq_true, ne_eq, Bool.true_eq_false, Bool.false_eq_true, reduceCtorEq, hn] <;> rfl) (fun rr env' he => ?_)
       simp only [List.cons_append, List.nil_append] at he
       subst he)
    | (refine st_rng (fun LL env' he => ?_)
       simp only [List.cons_append, List.nil_append] at he
       subst he)
    | (refine st_lst (by simp only [List.map_cons, List.map_nil, List.cons_append, List.nil_append] <;> rfl) ?_)
    | (refine st_loop (by rfl) (by simp only [Bx.den, Ex.den, Bnd.den, gI, gB, gL, gF, gN, gNil, List.map_cons, List.map_nil, List.cons_append, List.nil_append, List.getElem?_cons_zero, List.getElem?_cons_succ, List.getD, Option.getD_some, cmp_eql_t, cmp_eql_f, cmp_neq_t, cmp_neq_f, cmp_lss_t, cmp_lss_f, cmp_leq_t, cmp_leq_f, cmp_gtr_t, cmp_gtr_f, cmp_geq_t, cmp_geq_f, Bool.not_eq_true', Bool.not_eq_false', Bool.and_eq_true, Bool.and_eq_false_iff, binDen, Option.some.injEq, EV.u.injEq, Nil.isNil, beq_self_eq_true, and_self, true_and, and_true, or_false, false_or, or_self, not_true_eq_false, not_false_eq_true, ne_eq, Bool.true_eq_false, Bool.false_eq_true, reduceCtorEq, hn] <;> rfl) (by simp only [List.take_succ_cons, List.take_zero] <;> rfl) ?_ (fun env' h => hb env' h)
       refine ⟨M, a, b, n, _, _, _, _, _, _, _, _, _, _, _, 0, [], 0, rfl, hM, hn, by omega, by omega, by rfl, by omega, ?_, ?_⟩
       focus (rw [chainS]; rfl)
       focus (exact idxW_hi _ _))
    | fail "no step")
theorem hRChain : cRChain.Holds objs Try.prog := runCtr_holdsm (X := { cxKR2 Try.prog lRChain with hints := hsRChain }) objsOk mixed hctsKR2 (callable _ Try.func42 (by kernel_rfl) (by kernel_rfl)) (by rintro ins outs _ ⟨_, _, _, _, rfl, _⟩ ⟨c, rfl⟩; rfl) (by rw [rRChain]; exact vRChain _ _)

/-! ### operations -/
set_option maxHeartbeats 2000000 in
theorem vRPoStep (P : Program) (hs : List (Nat × Nat × List Nat)) : ∀ ins, ins.length = cRPoStep.nin → cRPoStep.pre ins → tRPoStep.sat { cx P ctsKR2 with hints := hs } (ctrR cRPoStep) ins := by
  rintro ins _ ⟨p, M, rfl, hp, hM⟩
  simp only [Tree.sat, Bx.den, Ex.den, Bnd.den, gI, gB, gL, gF, gN, gNil, List.map_cons, List.map_nil, List.cons_append, List.nil_append, List.getElem?_cons_zero, List.getElem?_cons_succ, List.getD, Option.getD_some, cmp_eql_t, cmp_eql_f, cmp_neq_t, cmp_neq_f, cmp_lss_t, cmp_lss_f, cmp_leq_t, cmp_leq_f, cmp_gtr_t, cmp_gtr_f, cmp_geq_t, cmp_geq_f, Bool.not_eq_true', Bool.not_eq_false', Bool.and_eq_true, Bool.and_eq_false_iff, binDen, ctrR, Ctr.may, List.take_succ_cons, List.take_zero, Option.some.injEq, EV.u.injEq, tRPoStep, cx, ctsKR2, objs, rmR]
  refine ⟨?_, nomore_rpop⟩
  rintro ps hl ⟨t, l, s, n, w, i, j, rfl, hn⟩ he
  injection he with he; subst he
  obtain ⟨g1, g2, g3, g4⟩ := hp
  have q1 := idxW_lo s (M.load t).n
  rcases hn with rfl | ⟨rfl | rfl, hi⟩ | rfl
  all_goals
    simp only [Tree.sat, Bx.den, Ex.den, Bnd.den, gI, gB, gL, gF, gN, gNil, List.map_cons, List.map_nil, List.cons_append, List.nil_append, List.getElem?_cons_zero, List.getElem?_cons_succ, List.getD, Option.getD_some, cmp_eql_t, cmp_eql_f, cmp_neq_t, cmp_neq_f, cmp_lss_t, cmp_lss_f, cmp_leq_t, cmp_leq_f, cmp_gtr_t, cmp_gtr_f, cmp_geq_t, cmp_geq_f, Bool.not_eq_true', Bool.not_eq_false', Bool.and_eq_true, Bool.and_eq_false_iff, binDen, ctrR, Ctr.may, List.take_succ_cons, List.take_zero, Option.some.injEq, EV.u.injEq, rpopT, rpopTObj, cRPoStep, stepPo, go_load, go_cas, out_qidx, out_qtop, rmR, true_and, and_true, ne_eq, not_true_eq_false, not_false_eq_true, false_implies, true_implies, implies_true, List.append_assoc]
    repeat' (first | with_reducible apply And.intro | intro _)
  all_goals first
    | omega
    | exact gl_load hM
    | exact gl_cas hM
    | exact ⟨_, _, _, _, rfl, n_load hM _⟩
    | exact ⟨_, _, rfl, g3, g4, g2⟩
    | exact ⟨_, _, _, _, _, _, _, rfl, by omega⟩
    | rfl
    | (rename_i h; rw [if_pos h]; rfl)
    | (rename_i h; rw [if_neg (by omega)]; rfl)
    | (rename_i h; simp [h]; done)
    | (rename_i h; simp [show ¬ idxW s (M.load t).n < 0 from by omega]; done)
    | (simp; done)
theorem hRPoStep : cRPoStep.Holds objs Try.prog := runCtr_holds (X := { cx Try.prog ctsKR2 with hints := hsRPoStep }) objsOk mixed hctsKR2 (callable _ Try.func90 (by kernel_rfl) (by kernel_rfl)) (by rintro ins _ ⟨_, _, rfl, _⟩; rfl) (by rw [rRPoStep]; exact vRPoStep _ _)
set_option maxHeartbeats 2000000 in
theorem vRPuStep (P : Program) (hs : List (Nat × Nat × List Nat)) : ∀ ins, ins.length = cRPuStep.nin → cRPuStep.pre ins → tRPuStep.sat { cx P ctsKR2 with hints := hs } (ctrR cRPuStep) ins := by
  rintro ins _ ⟨p, M, rfl, hp, hM⟩
  simp only [Tree.sat, Bx.den, Ex.den, Bnd.den, gI, gB, gL, gF, gN, gNil, List.map_cons, List.map_nil, List.cons_append, List.nil_append, List.getElem?_cons_zero, List.getElem?_cons_succ, List.getD, Option.getD_some, cmp_eql_t, cmp_eql_f, cmp_neq_t, cmp_neq_f, cmp_lss_t, cmp_lss_f, cmp_leq_t, cmp_leq_f, cmp_gtr_t, cmp_gtr_f, cmp_geq_t, cmp_geq_f, Bool.not_eq_true', Bool.not_eq_false', Bool.and_eq_true, Bool.and_eq_false_iff, binDen, ctrR, Ctr.may, List.take_succ_cons, List.take_zero, Option.some.injEq, EV.u.injEq, tRPuStep, cx, ctsKR2, objs, rmR]
  refine ⟨?_, nomore_rpush⟩
  rintro ps hl ⟨t, l, s, n, w, i, e, rfl, hn⟩ he
  injection he with he; subst he
  by_cases he0 : e = 0
  · subst he0
    obtain ⟨g1, g2, g3, g4⟩ := hp
    have q1 := idxW_lo s w
    have q2 := idxW_hi s w
    have w1 : IntKind.i64.wrap (idxW s w + 1) = idxW s w + 1 := wrap_small (by omega) (by omega)
    have w2 : IntKind.u64.wrap (idxW s w + 1) = idxW s w + 1 := u64_small (by omega) (by omega)
    have hn' : n = 1 ∨ n = 2 ∨ n = 3 ∨ n = 9 := by omega
    rcases hn' with rfl | rfl | rfl | rfl
    all_goals
      simp only [Tree.sat, Bx.den, Ex.den, Bnd.den, gI, gB, gL, gF, gN, gNil, List.map_cons, List.map_nil, List.cons_append, List.nil_append, List.getElem?_cons_zero, List.getElem?_cons_succ, List.getD, Option.getD_some, cmp_eql_t, cmp_eql_f, cmp_neq_t, cmp_neq_f, cmp_lss_t, cmp_lss_f, cmp_leq_t, cmp_leq_f, cmp_gtr_t, cmp_gtr_f, cmp_geq_t, cmp_geq_f, Bool.not_eq_true', Bool.not_eq_false', Bool.and_eq_true, Bool.and_eq_false_iff, binDen, ctrR, Ctr.may, List.take_succ_cons, List.take_zero, Option.some.injEq, EV.u.injEq, rpushT, rpushTObj, cRPuStep, stepPu, go_load, go_store, go_cas, out_qidx, out_qtop, w1, w2, rmR, true_and, and_true, ne_eq, not_true_eq_false, not_false_eq_true, false_implies, true_implies, implies_true, List.append_assoc]
      repeat' (first | with_reducible apply And.intro | intro _)
    all_goals first
      | omega
      | exact gl_load hM
      | exact gl_store hM
      | exact gl_cas hM
      | exact ⟨_, _, _, _, rfl, g2⟩
      | exact ⟨_, _, rfl, Int.le_trans (by decide) g3, g4, g2⟩
      | exact ⟨_, _, _, _, _, _, _, rfl, by omega⟩
      | rfl
      | (rename_i h; simp [h]; done)
      | (simp; done)
  · have hn9 : n = 9 := by omega
    subst hn9
    simp only [Tree.sat, Bx.den, Ex.den, Bnd.den, gI, gB, gL, gF, gN, gNil, List.map_cons, List.map_nil, List.cons_append, List.nil_append, List.getElem?_cons_zero, List.getElem?_cons_succ, List.getD, Option.getD_some, cmp_eql_t, cmp_eql_f, cmp_neq_t, cmp_neq_f, cmp_lss_t, cmp_lss_f, cmp_leq_t, cmp_leq_f, cmp_gtr_t, cmp_gtr_f, cmp_geq_t, cmp_geq_f, Bool.not_eq_true', Bool.not_eq_false', Bool.and_eq_true, Bool.and_eq_false_iff, binDen, ctrR, Ctr.may, List.take_succ_cons, List.take_zero, Option.some.injEq, EV.u.injEq, rpushT, rpushTObj, cRPuStep, stepPu, rmR, true_and, and_true, ne_eq, not_true_eq_false, not_false_eq_true, false_implies, true_implies, implies_true, List.append_assoc]
    repeat' (first | with_reducible apply And.intro | intro _)
    all_goals first
      | omega
      | exact ⟨_, _, _, _, _, _, _, rfl, by omega⟩
      | rfl
      | (simp [he0]; rfl)
      | (simp [he0]; done)
theorem hRPuStep : cRPuStep.Holds objs Try.prog := runCtr_holds (X := { cx Try.prog ctsKR2 with hints := hsRPuStep }) objsOk mixed hctsKR2 (callable _ Try.func92 (by kernel_rfl) (by kernel_rfl)) (by rintro ins _ ⟨_, _, rfl, _⟩; rfl) (by rw [rRPuStep]; exact vRPuStep _ _)
set_option maxHeartbeats 2000000 in
theorem vRAlStep (P : Program) (hs : List (Nat × Nat × List Nat)) : ∀ ins, ins.length = cRAlStep.nin → cRAlStep.pre ins → tRAlStep.sat { cx P ctsKR2 with hints := hs } (ctrR cRAlStep) ins := by
  rintro ins _ ⟨p, M, rfl, hp, hM⟩
  simp only [Tree.sat, Bx.den, Ex.den, Bnd.den, gI, gB, gL, gF, gN, gNil, List.map_cons, List.map_nil, List.cons_append, List.nil_append, List.getElem?_cons_zero, List.getElem?_cons_succ, List.getD, Option.getD_some, cmp_eql_t, cmp_eql_f, cmp_neq_t, cmp_neq_f, cmp_lss_t, cmp_lss_f, cmp_leq_t, cmp_leq_f, cmp_gtr_t, cmp_gtr_f, cmp_geq_t, cmp_geq_f, Bool.not_eq_true', Bool.not_eq_false', Bool.and_eq_true, Bool.and_eq_false_iff, binDen, ctrR, Ctr.may, List.take_succ_cons, List.take_zero, Option.some.injEq, EV.u.injEq, tRAlStep, cx, ctsKR2, objs, rmR]
  refine ⟨?_, nomore_rall⟩
  rintro ps hl ⟨t, l, s, n, w, i, rfl, hn⟩ he
  injection he with he; subst he
  obtain ⟨g1, g2⟩ := hp
  have q1 := idxW_lo s (M.load t).n
  rcases hn with rfl | ⟨rfl, hi⟩ | rfl
  all_goals
    simp only [Tree.sat, Bx.den, Ex.den, Bnd.den, gI, gB, gL, gF, gN, gNil, List.map_cons, List.map_nil, List.cons_append, List.nil_append, List.getElem?_cons_zero, List.getElem?_cons_succ, List.getD, Option.getD_some, cmp_eql_t, cmp_eql_f, cmp_neq_t, cmp_neq_f, cmp_lss_t, cmp_lss_f, cmp_leq_t, cmp_leq_f, cmp_gtr_t, cmp_gtr_f, cmp_geq_t, cmp_geq_f, Bool.not_eq_true', Bool.not_eq_false', Bool.and_eq_true, Bool.and_eq_false_iff, binDen, ctrR, Ctr.may, List.take_succ_cons, List.take_zero, Option.some.injEq, EV.u.injEq, rallT, rallTObj, cRAlStep, stepAl, go_load, go_cas, out_qidx, out_qtop, rmR, true_and, and_true, ne_eq, not_true_eq_false, not_false_eq_true, false_implies, true_implies, implies_true, List.append_assoc]
    repeat' (first | with_reducible apply And.intro | intro _)
  all_goals first
    | omega
    | exact gl_load hM
    | exact gl_cas hM
    | exact ⟨_, _, _, _, rfl, n_load hM _⟩
    | exact ⟨_, _, rfl, by decide, by decide, g2⟩
    | exact ⟨_, _, _, _, _, _, rfl, by omega⟩
    | rfl
    | (rename_i h; rw [if_pos h]; rfl)
    | (rename_i h; rw [if_neg (by omega)]; rfl)
    | (rename_i h; simp [h]; done)
    | (rename_i h; simp [show ¬ idxW s (M.load t).n < 0 from by omega]; done)
    | (simp; done)
theorem hRAlStep : cRAlStep.Holds objs Try.prog := runCtr_holds (X := { cx Try.prog ctsKR2 with hints := hsRAlStep }) objsOk mixed hctsKR2 (callable _ Try.func94 (by kernel_rfl) (by kernel_rfl)) (by rintro ins _ ⟨_, _, rfl, _⟩; rfl) (by rw [rRAlStep]; exact vRAlStep _ _)
end Go.Proofs.Ytdabdbbgaekmdaa
