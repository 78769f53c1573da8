/- Collects: made, told; a step on both sides (printed by gen_lm.py). -/
import Derived.Test.YtdldcofddfkkbaaGreatMd
namespace Go.Proofs.YtdldcofddfkkbaaGreat
set_option linter.unusedVariables false
set_option linter.unusedSimpArgs false
set_option linter.unusedSectionVars false
open Go Go.RowKit

theorem rem3 {p : Int} (h : 0 ≤ p) : (IntKind.i64.wrap (p.tmod 3 + 2)).tmod 3 = (p + 2) % 3 := by
  rw [Int.tmod_eq_emod_of_nonneg h, wrap_small (by omega) (by omega), Int.tmod_eq_emod_of_nonneg (by omega)]
  omega
theorem rem3q {p : Int} (h : 0 ≤ p) (h' : p < 9223372036854775808) : IntKind.i64.wrap ((IntKind.u64.wrap (IntKind.i64.wrap (p + 2))).tmod 3) = (p + 2) % 3 := by
  have e : IntKind.u64.wrap (IntKind.i64.wrap (p + 2)) = p + 2 := by simp [IntKind.wrap, IntKind.signed, IntKind.bits]; omega
  rw [e, Int.tmod_eq_emod_of_nonneg (by omega), wrap_small (by omega) (by omega)]
theorem cm_n {C : ColSt} (h : ¬ C.line = 9) : [EV.u (U.col C), .i 0, .i 14] = cCMany.out [.u (U.col C)] := by
  show _ = [EV.u (U.col C), .i C.many, .i C.told]
  rw [ColSt.many, ColSt.told, if_neg (fun g => h g.1), if_neg h]
theorem cm_e {C : ColSt} (h : C.line = 9) (he : ¬ C.err = 0) : [EV.u (U.col C), .i 0, .i C.err] = cCMany.out [.u (U.col C)] := by
  show _ = [EV.u (U.col C), .i C.many, .i C.told]
  rw [ColSt.many, ColSt.told, if_neg (fun g => he g.2), if_pos h]
theorem qcm_n {C : ColSt} (h : ¬ C.line = 9) : [EV.u (U.rcol C), .i 0, .i 14] = cQCMany.out [.u (U.rcol C)] := by
  show _ = [EV.u (U.rcol C), .i C.many, .i C.told]
  rw [ColSt.many, ColSt.told, if_neg (fun g => h g.1), if_neg h]
theorem qcm_e {C : ColSt} (h : C.line = 9) (he : ¬ C.err = 0) : [EV.u (U.rcol C), .i 0, .i C.err] = cQCMany.out [.u (U.rcol C)] := by
  show _ = [EV.u (U.rcol C), .i C.many, .i C.told]
  rw [ColSt.many, ColSt.told, if_neg (fun g => he g.2), if_pos h]
theorem qcm_y {C : ColSt} (h : C.line = 9) (he : C.err = 0) : [EV.u (U.rcol C), .i C.n, .i 0] = cQCMany.out [.u (U.rcol C)] := by
  show _ = [EV.u (U.rcol C), .i C.many, .i C.told]
  rw [ColSt.many, ColSt.told, if_pos ⟨h, he⟩, if_pos h, he]
set_option maxRecDepth 10000
set_option maxHeartbeats 4000000 in
theorem vCNew (P : Program) (hs : List (Nat × Nat × List Nat)) : ∀ ins, ins.length = cCNew.nin → cCNew.pre ins → tCNew.sat { cxMi P with hints := hs } (ctrR cCNew) ins := by
  rintro ins _ ⟨t, ls, s, g, wo, lm, ea, ep, ec, tp, c, p, rfl, g1, g2, g3, g4, g5, g6⟩
  have hz : isWd 0 := ⟨by decide, by decide⟩
  unfold tCNew
  by_cases gp : 0 ≤ p
  (have h3 := rem3 gp)
  rotate_left
  (have h3 : True := trivial)
  all_goals
    repeat' (first
      | (first
        | (with_reducible refine st_need ?_ ?_
           focus (simp only [dn, reduceCtorEq, h3, va_map] <;> first | omega | assumption))
        | (with_reducible refine st_and ?_ ?_)
        | (with_reducible exact st_ok)
        | (with_reducible refine st_br (fun hc => ?_) (fun hc => ?_) <;> (simp only [dn, reduceCtorEq, h3, va_map] at hc) <;> (try (exfalso; first | contradiction | omega)))
        | (refine st_call (by rfl) (by simp only [dn, reduceCtorEq, h3, va_map] <;> rfl) ?_ (by rfl <;> rfl) (by simp only [dn] <;> rfl) ?_
           focus (first | rfl)))
      | (refine st_mk (by rfl) (by simp only [dn, reduceCtorEq, h3, va_map] <;> rfl) ?_ (by simp only [dn] <;> rfl) ?_
         focus
         (first | refine ⟨_, _, _, _, _, _, _, _, _, _, _, rfl, ?_⟩ | refine ⟨_, _, _, _, _, _, _, _, _, _, _, _, _, _, _, _, rfl, ?_⟩)
         (repeat' with_reducible apply And.intro) <;> first | assumption | (with_reducible refine .inl ?_; (repeat' with_reducible apply And.intro) <;> first | rfl | assumption | omega; done) | (with_reducible refine .inr (.inl ?_); (repeat' with_reducible apply And.intro) <;> first | rfl | assumption | omega; done) | (with_reducible refine .inr (.inr (.inl ?_)); (repeat' with_reducible apply And.intro) <;> first | rfl | assumption | omega; done) | (with_reducible refine .inr (.inr ?_); rfl) | (with_reducible refine .inr (.inr (.inr ?_)); rfl) | omega | rfl | trivial)
      | (refine st_ret (by simp only [dn, reduceCtorEq, va_map] <;> rfl) ?_
         show [EV.u (U.col _)] = [EV.u (U.col (ColSt.new _ _ _ _ _))]
         first
           | (rw [cnew_no (by omega)]; rfl)
           | (rw [cnew_ok (by omega)]; rfl))
      | fail "no step")
theorem hCNew : cCNew.Holds objs Tryz.prog := runCtr_holds (X := { cxMi Tryz.prog with hints := hsCNew }) objsOk mixed noCts (callable _ Tryz.func23 (by kernel_rfl) (by kernel_rfl)) (by rintro ins _ ⟨_, _, _, _, _, _, _, _, _, _, _, _, rfl, _⟩; rfl) (by rw [rCNew]; exact vCNew _ _)
set_option maxHeartbeats 4000000 in
theorem vQCNew (P : Program) (hs : List (Nat × Nat × List Nat)) : ∀ ins, ins.length = cQCNew.nin → cQCNew.pre ins → tQCNew.sat { cxMi P with hints := hs } (ctrR cQCNew) ins := by
  rintro ins _ ⟨t, ls, s, g, wo, lm, ea, ep, ec, tp, c, p, rfl, g1, g2, g3, g4, g5, g6⟩
  have hz : isWd 0 := ⟨by decide, by decide⟩
  unfold tQCNew
  by_cases gp : 0 ≤ p
  (have h3 := rem3q gp g6)
  rotate_left
  (have h3 : True := trivial)
  all_goals
    repeat' (first
      | (first
        | (with_reducible refine st_need ?_ ?_
           focus (simp only [dn, reduceCtorEq, h3, va_map] <;> first | omega | assumption))
        | (with_reducible refine st_and ?_ ?_)
        | (with_reducible exact st_ok)
        | (with_reducible refine st_br (fun hc => ?_) (fun hc => ?_) <;> (simp only [dn, reduceCtorEq, h3, va_map] at hc) <;> (try (exfalso; first | contradiction | omega)))
        | (refine st_call (by rfl) (by simp only [dn, reduceCtorEq, h3, va_map] <;> rfl) ?_ (by rfl <;> rfl) (by simp only [dn] <;> rfl) ?_
           focus (first | rfl)))
      | (refine st_mk (by rfl) (by simp only [dn, reduceCtorEq, h3, va_map] <;> rfl) ?_ (by simp only [dn] <;> rfl) ?_
         focus
         (first | refine ⟨_, _, _, _, _, _, _, _, _, _, _, _, _, _, _, _, _, _, _, _, _, _, _, rfl, ?_⟩ | refine ⟨_, _, _, _, _, _, _, _, _, _, _, _, _, _, _, _, _, _, _, _, _, _, _, _, rfl, ?_⟩)
         (repeat' with_reducible apply And.intro) <;> first | assumption | (with_reducible refine .inl ?_; (repeat' with_reducible apply And.intro) <;> first | rfl | assumption | omega; done) | (with_reducible refine .inr (.inl ?_); (repeat' with_reducible apply And.intro) <;> first | rfl | assumption | omega; done) | (with_reducible refine .inr (.inr (.inl ?_)); (repeat' with_reducible apply And.intro) <;> first | rfl | assumption | omega; done) | (with_reducible refine .inr (.inr ?_); rfl) | (with_reducible refine .inr (.inr (.inr ?_)); rfl) | omega | rfl | trivial)
      | (refine st_ret (by simp only [dn, reduceCtorEq, va_map] <;> rfl) ?_
         show [EV.u (U.rcol _)] = [EV.u (U.rcol (ColSt.new _ _ _ _ _))]
         first
           | (rw [cnew_no (by omega)]; rfl)
           | (rw [cnew_ok (by omega)]; rfl))
      | fail "no step")
theorem hQCNew : cQCNew.Holds objs Tryz.prog := runCtr_holds (X := { cxMi Tryz.prog with hints := hsQCNew }) objsOk mixed noCts (callable _ Tryz.func102 (by kernel_rfl) (by kernel_rfl)) (by rintro ins _ ⟨_, _, _, _, _, _, _, _, _, _, _, _, rfl, _⟩; rfl) (by rw [rQCNew]; exact vQCNew _ _)
set_option maxHeartbeats 8000000 in
theorem vCMany (P : Program) (hs : List (Nat × Nat × List Nat)) : ∀ ins, ins.length = cCMany.nin → cCMany.pre ins → tCMany.sat { cxMi P with hints := hs } (ctrR cCMany) ins := by
  rintro ins _ ⟨F, rfl⟩
  unfold tCMany
  refine st_and (st_opn (T := colA) (by rfl) ?_) (st_and (st_opn (T := colT1) (by rfl) ?_) (st_and (st_opn (T := colT2) (by rfl) ?_) (st_and (st_opn (T := colL0) (by rfl) ?_) (st_and (st_opn (T := colL1) (by rfl) ?_) (st_and (st_opn (T := colG0) (by rfl) ?_) (st_and (st_opn (T := colG1) (by rfl) ?_) (st_and (st_opn (T := colG2) (by rfl) ?_) (st_and (st_opn (T := colG3f) (by rfl) ?_) (st_and (st_opn (T := colG3s) (by rfl) ?_) (st_and (st_opn (T := colG3t) (by rfl) ?_) (st_and (st_opn (T := colE1) (by rfl) ?_) (st_and (st_opn (T := colE2) (by rfl) ?_) (st_and (st_opn (T := colE3) (by rfl) ?_) (st_and (st_opn (T := colR) (by rfl) ?_) (nomore_col)))))))))))))))
  (rintro ps hl ⟨t, ls, s, g, wo, lm, ea, ep, ec, tp, c, p, al, aw, an, av, rfl, hok⟩ he
   simp only [List.getElem?_cons_zero, colA, colAObj, Option.some.injEq, EV.u.injEq, U.col.injEq] at he
   subst he
   simp only [List.cons_append, List.nil_append])
  rotate_left
  (rintro ps hl ⟨t, ls, s, g, wo, lm, ea, ep, ec, tp, c, p, aw, an, av, lw, i, j, rfl, hok⟩ he
   simp only [List.getElem?_cons_zero, colT1, colT1Obj, Option.some.injEq, EV.u.injEq, U.col.injEq] at he
   subst he
   simp only [List.cons_append, List.nil_append]
   skip)
  rotate_left
  (rintro ps hl ⟨t, ls, s, g, wo, lm, ea, ep, ec, tp, c, p, aw, an, av, lw, i, j, rfl, hok⟩ he
   simp only [List.getElem?_cons_zero, colT2, colT2Obj, Option.some.injEq, EV.u.injEq, U.col.injEq] at he
   subst he
   simp only [List.cons_append, List.nil_append]
   skip)
  rotate_left
  (rintro ps hl ⟨t, ls, s, g, wo, lm, ea, ep, ec, tp, c, p, aw, an, av, lw, ai, aj, i, nx, n, rfl, hok⟩ he
   simp only [List.getElem?_cons_zero, colL0, colL0Obj, Option.some.injEq, EV.u.injEq, U.col.injEq] at he
   subst he
   simp only [List.cons_append, List.nil_append]
   skip)
  rotate_left
  (rintro ps hl ⟨t, ls, s, g, wo, lm, ea, ep, ec, tp, c, p, aw, an, av, lw, ai, aj, i, nx, n, fi, fg, pw, pj, pd, rfl, hok⟩ he
   simp only [List.getElem?_cons_zero, colL1, colL1Obj, Option.some.injEq, EV.u.injEq, U.col.injEq] at he
   subst he
   simp only [List.cons_append, List.nil_append]
   skip)
  rotate_left
  (rintro ps hl ⟨t, ls, s, g, wo, lm, ea, ep, ec, tp, c, p, aw, an, av, lw, ai, aj, i, nx, n, fg, pw, pj, rfl, hok⟩ he
   simp only [List.getElem?_cons_zero, colG0, colG0Obj, Option.some.injEq, EV.u.injEq, U.col.injEq] at he
   subst he
   simp only [List.cons_append, List.nil_append]
   skip)
  rotate_left
  (rintro ps hl ⟨t, ls, s, g, wo, lm, ea, ep, ec, tp, c, p, aw, an, av, lw, ai, aj, i, nx, n, fg, pw, pj, rfl, hok⟩ he
   simp only [List.getElem?_cons_zero, colG1, colG1Obj, Option.some.injEq, EV.u.injEq, U.col.injEq] at he
   subst he
   simp only [List.cons_append, List.nil_append]
   skip)
  rotate_left
  (rintro ps hl ⟨t, ls, s, g, wo, lm, ea, ep, ec, tp, c, p, aw, an, av, lw, ai, aj, i, nx, n, fg, pw, pj, rfl, hok⟩ he
   simp only [List.getElem?_cons_zero, colG2, colG2Obj, Option.some.injEq, EV.u.injEq, U.col.injEq] at he
   subst he
   simp only [List.cons_append, List.nil_append]
   skip)
  rotate_left
  (rintro ps hl ⟨t, ls, s, g, wo, lm, ea, ep, ec, tp, c, p, aw, an, av, lw, ai, aj, i, nx, n, fg, pw, pj, rfl, hok⟩ he
   simp only [List.getElem?_cons_zero, colG3f, colG3fObj, Option.some.injEq, EV.u.injEq, U.col.injEq] at he
   subst he
   simp only [List.cons_append, List.nil_append]
   skip)
  rotate_left
  (rintro ps hl ⟨t, ls, s, g, wo, lm, ea, ep, ec, tp, c, p, aw, an, av, lw, ai, aj, i, nx, n, fg, pw, pj, rfl, hok⟩ he
   simp only [List.getElem?_cons_zero, colG3s, colG3sObj, Option.some.injEq, EV.u.injEq, U.col.injEq] at he
   subst he
   simp only [List.cons_append, List.nil_append]
   skip)
  rotate_left
  (rintro ps hl ⟨t, ls, s, g, wo, lm, ea, ep, ec, tp, c, p, aw, an, av, lw, ai, aj, i, nx, n, fg, pw, pj, rfl, hok⟩ he
   simp only [List.getElem?_cons_zero, colG3t, colG3tObj, Option.some.injEq, EV.u.injEq, U.col.injEq] at he
   subst he
   simp only [List.cons_append, List.nil_append]
   skip)
  rotate_left
  (rintro ps hl ⟨t, ls, s, g, wo, lm, ea, ep, ec, tp, c, p, aw, an, av, e, rfl, hok⟩ he
   simp only [List.getElem?_cons_zero, colE1, colE1Obj, Option.some.injEq, EV.u.injEq, U.col.injEq] at he
   subst he
   simp only [List.cons_append, List.nil_append]
   skip)
  rotate_left
  (rintro ps hl ⟨t, ls, s, g, wo, lm, ea, ep, ec, tp, c, p, aw, an, av, lw, ai, aj, rfl, hok⟩ he
   simp only [List.getElem?_cons_zero, colE2, colE2Obj, Option.some.injEq, EV.u.injEq, U.col.injEq] at he
   subst he
   simp only [List.cons_append, List.nil_append]
   skip)
  rotate_left
  (rintro ps hl ⟨t, ls, s, g, wo, lm, ea, ep, ec, tp, c, p, aw, an, av, lw, ai, aj, i, nx, n, fi, fg, pw, pj, pd, rfl, hok⟩ he
   simp only [List.getElem?_cons_zero, colE3, colE3Obj, Option.some.injEq, EV.u.injEq, U.col.injEq] at he
   subst he
   simp only [List.cons_append, List.nil_append]
   skip)
  rotate_left
  (rintro ps hl ⟨t, ls, s, g, wo, lm, ea, ep, ec, tp, e, rfl, hok⟩ he
   simp only [List.getElem?_cons_zero, colR, colRObj, Option.some.injEq, EV.u.injEq, U.col.injEq] at he
   subst he
   simp only [List.cons_append, List.nil_append]
   skip)
  rotate_left
  all_goals
    repeat' (first
      | (first
        | (with_reducible refine st_need ?_ ?_
           focus (simp only [dn, reduceCtorEq, va_map] <;> first | omega | assumption))
        | (with_reducible refine st_and ?_ ?_)
        | (with_reducible exact st_ok)
        | (with_reducible refine st_br (fun hc => ?_) (fun hc => ?_) <;> (simp only [dn, reduceCtorEq, va_map] at hc) <;> (try (exfalso; first | contradiction | omega)))
        | (refine st_call (by rfl) (by simp only [dn, reduceCtorEq, va_map] <;> rfl) ?_ (by rfl <;> rfl) (by simp only [dn] <;> rfl) ?_
           focus (first | rfl)))
      | (refine st_mk (by rfl) (by simp only [dn, reduceCtorEq, va_map] <;> rfl) ?_ (by simp only [dn] <;> rfl) ?_
         focus first | exact ⟨_, _, _, _, _, _, _, _, _, _, _, rfl, hok⟩ | exact ⟨_, _, _, _, _, _, _, _, _, _, _, _, _, _, _, _, rfl, hok⟩ | exact ⟨_, _, _, _, _, _, _, _, _, _, _, _, _, _, _, _, _, _, rfl, hok⟩ | exact ⟨_, _, _, _, _, _, _, _, _, _, _, _, _, _, _, _, _, _, _, _, _, rfl, hok⟩ | exact ⟨_, _, _, _, _, _, _, _, _, _, _, _, _, _, _, _, _, _, _, _, _, _, _, _, rfl, hok⟩ | exact ⟨_, _, _, _, _, _, _, _, _, _, _, _, _, _, _, _, _, _, _, _, _, _, _, _, _, _, rfl, hok⟩)
      | (refine st_ret (by simp only [dn, reduceCtorEq, va_map] <;> rfl) ?_
         first
           | exact cm_n (by decide)
           | rfl
           | exact cm_e rfl hok)
      | fail "no step")
theorem hCMany : cCMany.Holds objs Tryz.prog := runCtr_holds (X := { cxMi Tryz.prog with hints := hsCMany }) objsOk mixed noCts (callable _ Tryz.func16 (by kernel_rfl) (by kernel_rfl)) (by rintro ins _ ⟨_, rfl⟩; rfl) (by rw [rCMany]; exact vCMany _ _)
set_option maxHeartbeats 8000000 in
theorem vQCMany (P : Program) (hs : List (Nat × Nat × List Nat)) : ∀ ins, ins.length = cQCMany.nin → cQCMany.pre ins → tQCMany.sat { cxMi P with hints := hs } (ctrR cQCMany) ins := by
  rintro ins _ ⟨F, rfl⟩
  unfold tQCMany
  refine st_and (st_opn (T := rcolA) (by rfl) ?_) (st_and (st_opn (T := rcolB) (by rfl) ?_) (st_and (st_opn (T := rcolR) (by rfl) ?_) (nomore_rcol)))
  (rintro ps hl ⟨t, ls, s, g, wo, lm, ea, ep, ec, tp, c, p, al, aw, an, bad, av, ll, lw, ai, line, i, e, rfl, hok⟩ he
   simp only [List.getElem?_cons_zero, rcolA, rcolAObj, Option.some.injEq, EV.u.injEq, U.rcol.injEq] at he
   subst he
   simp only [List.cons_append, List.nil_append]
   have hn : line = 9 ∨ ¬ line = 9 := by omega
   rcases hn with rfl | h9)
  (try simp only [reduceIte, Int.reduceEq, Int.reduceSub, not_true_eq_false, not_false_eq_true, and_true, and_false, true_and, false_and, or_false, false_or, or_true, true_or, reduceCtorEq, if_true, if_false]
   have h9 : True := trivial)
  rotate_left 2
  (rintro ps hl ⟨t, ls, s, g, wo, lm, ea, ep, ec, tp, c, p, al, aw, an, bad, av, ll, lw, ai, line, i, nx, n, e, fl, fi, fg, pl, pw, rfl, hok⟩ he
   simp only [List.getElem?_cons_zero, rcolB, rcolBObj, Option.some.injEq, EV.u.injEq, U.rcol.injEq] at he
   subst he
   simp only [List.cons_append, List.nil_append]
   have hn : line = 9 ∨ ¬ line = 9 := by omega
   rcases hn with rfl | h9)
  (try simp only [reduceIte, Int.reduceEq, Int.reduceSub, not_true_eq_false, not_false_eq_true, and_true, and_false, true_and, false_and, or_false, false_or, or_true, true_or, reduceCtorEq, if_true, if_false]
   have h9 : True := trivial)
  rotate_left 2
  (rintro ps hl ⟨t, ls, s, g, wo, lm, ea, ep, ec, tp, x0, x1, x2, c, p, al, aw, an, bad, av, ll, lw, ai, e, rfl, hok⟩ he
   simp only [List.getElem?_cons_zero, rcolR, rcolRObj, Option.some.injEq, EV.u.injEq, U.rcol.injEq] at he
   subst he
   simp only [List.cons_append, List.nil_append]
   have h9 : True := trivial
   skip)
  rotate_left
  all_goals
    repeat' (first
      | (first
        | (with_reducible refine st_need ?_ ?_
           focus (simp only [dn, reduceCtorEq, va_map] <;> first | omega | assumption))
        | (with_reducible refine st_and ?_ ?_)
        | (with_reducible exact st_ok)
        | (with_reducible refine st_br (fun hc => ?_) (fun hc => ?_) <;> (simp only [dn, reduceCtorEq, va_map] at hc) <;> (try (exfalso; first | contradiction | omega)))
        | (refine st_call (by rfl) (by simp only [dn, reduceCtorEq, va_map] <;> rfl) ?_ (by rfl <;> rfl) (by simp only [dn] <;> rfl) ?_
           focus (first | rfl)))
      | (refine st_mk (by rfl) (by simp only [dn, reduceCtorEq, va_map] <;> rfl) ?_ (by simp only [dn] <;> rfl) ?_
         focus first | exact ⟨_, _, _, _, _, _, _, _, _, _, _, _, _, _, _, _, _, _, _, _, _, _, _, rfl, hok⟩ | exact ⟨_, _, _, _, _, _, _, _, _, _, _, _, _, _, _, _, _, _, _, _, _, _, _, _, rfl, hok⟩ | exact ⟨_, _, _, _, _, _, _, _, _, _, _, _, _, _, _, _, _, _, _, _, _, _, _, _, _, _, _, _, _, _, rfl, hok⟩)
      | (refine st_ret (by simp only [dn, reduceCtorEq, va_map] <;> rfl) ?_
         first
           | exact qcm_n h9
           | exact qcm_e rfl (by assumption)
           | exact qcm_e rfl hok
           | exact qcm_y rfl (by assumption)
           | exact qcm_y rfl rfl
           | rfl)
      | fail "no step")
theorem hQCMany : cQCMany.Holds objs Tryz.prog := runCtr_holds (X := { cxMi Tryz.prog with hints := hsQCMany }) objsOk mixed noCts (callable _ Tryz.func100 (by kernel_rfl) (by kernel_rfl)) (by rintro ins _ ⟨_, rfl⟩; rfl) (by rw [rQCMany]; exact vQCMany _ _)
theorem hctsMb : ∀ (ci : Nat) (c : Ctr U), ctsMb[ci]? = some c → c.Holds objs Tryz.prog := by
  intro ci c h
  match ci, h with
  | 0, h => cases h; exact hRStep
  | 1, h => cases h; exact hQRStep
  | 2, h => cases h; exact hRErr
  | 3, h => cases h; exact hQRErr
  | 4, h => cases h; exact hCStep
  | 5, h => cases h; exact hQCStep
  | 6, h => cases h; exact hCMany
  | 7, h => cases h; exact hQCMany
  | n + 8, h => cases h
theorem out_rstep (R : RetSt) (M : MemSt) : cRStep.out [.u (.ret R), .u (.mem M)] = [.u (.ret (R.step M).1), .u (.mem (R.step M).2), .b ((R.step M).1.line == 9)] := rfl
theorem out_qrstep (R : RetSt) (M : MemSt) : cQRStep.out [.u (.rret R), .u (.rmem M)] = [.u (.rret (R.step M).1), .u (.rmem (R.step M).2), .b ((R.step M).1.line == 9)] := rfl
theorem out_rerr (R : RetSt) : cRErr.out [.u (.ret R)] = [.u (.ret R), .i R.told] := rfl
theorem out_qrerr (R : RetSt) : cQRErr.out [.u (.rret R)] = [.u (.rret R), .i R.told] := rfl
theorem out_cstep (C : ColSt) (M : MemSt) : cCStep.out [.u (.col C), .u (.mem M)] = [.u (.col (C.step M).1), .u (.mem (C.step M).2), .b ((C.step M).1.line == 9)] := rfl
theorem out_qcstep (C : ColSt) (M : MemSt) : cQCStep.out [.u (.rcol C), .u (.rmem M)] = [.u (.rcol (C.step M).1), .u (.rmem (C.step M).2), .b ((C.step M).1.line == 9)] := rfl
theorem out_cmany (C : ColSt) : cCMany.out [.u (.col C)] = [.u (.col C), .i C.many, .i C.told] := rfl
theorem out_qcmany (C : ColSt) : cQCMany.out [.u (.rcol C)] = [.u (.rcol C), .i C.many, .i C.told] := rfl
set_option maxHeartbeats 4000000 in
theorem vBStep (P : Program) (hs : List (Nat × Nat × List Nat)) : ∀ ins, ins.length = cBStep.nin → cBStep.pre ins → tBStep.sat { cxMb P with hints := hs } (ctrR cBStep) ins := by
  rintro ins _ (⟨R, M, rfl, hM⟩ | ⟨R, M, rfl, hM⟩ | ⟨M, rfl, hM⟩)
  all_goals
    unfold tBStep
    repeat' (first
      | (first
        | (with_reducible refine st_need ?_ ?_
           focus (simp only [dn, reduceCtorEq, cmp_self, va_map] <;> first | omega | assumption))
        | (with_reducible refine st_and ?_ ?_)
        | (with_reducible exact st_ok)
        | (with_reducible refine st_br (fun hc => ?_) (fun hc => ?_) <;> (simp only [dn, reduceCtorEq, cmp_self, va_map] at hc) <;> (try (exfalso; first | contradiction | omega)))
        | (refine st_call (by rfl) (by simp only [dn, reduceCtorEq, cmp_self, va_map] <;> rfl) ?_ (by simp only [out_rstep, out_qrstep, out_rerr, out_qrerr, out_cstep, out_qcstep, out_cmany, out_qcmany] <;> rfl) (by simp only [dn] <;> rfl) ?_
           focus (first | exact ⟨_, _, rfl, hM⟩ | exact ⟨_, rfl⟩)))
      | (refine st_ret (by simp only [dn, reduceCtorEq, cmp_self, va_map] <;> rfl) ?_
         first | rfl | (simp only [cmp_self]; rfl))
      | fail "no step")
theorem hBStep : cBStep.Holds objs Tryz.prog := runCtr_holds (X := { cxMb Tryz.prog with hints := hsBStep }) objsOk mixed hctsMb (callable _ Tryz.func33 (by kernel_rfl) (by kernel_rfl)) (by rintro ins _ (⟨_, _, rfl, _⟩ | ⟨_, _, rfl, _⟩ | ⟨_, rfl, _⟩) <;> rfl) (by rw [rBStep]; exact vBStep _ _)
end Go.Proofs.YtdldcofddfkkbaaGreat
