/- Texts of this proof. -/
import Derived.Test.YtdldcofddfkkbaaGreatB9O
import Derived.Test.YtdldcofddfkkbaaGreatB8O
import Derived.Test.YtdldcofddfkkbaaGreatMbTO
namespace Go.Proofs.YtdldcofddfkkbaaGreat
set_option linter.unusedVariables false
set_option linter.unusedSimpArgs false
set_option linter.unusedSectionVars false
open Go Go.RowKit
theorem nomore_ret {R : RetSt} : ∀ (t : Nat) (T : ObjT U) (ps : List (EV U)), objs[t]? = some T → t ∉ [18, 19, 20, 21, 22, 23] → ps.length = T.nv → T.ok ps → some (EV.u (U.ret R)) ≠ some (EV.u (T.obj ps)) :=
 nomore_kind (by show ∀ t, t < 61 → t ∉ [18, 19, 20, 21, 22, 23] → kinds.getD t 0 ≠ 10; decide)
theorem nomore_rret {R : RetSt} : ∀ (t : Nat) (T : ObjT U) (ps : List (EV U)), objs[t]? = some T → t ∉ [25, 26, 27] → ps.length = T.nv → T.ok ps → some (EV.u (U.rret R)) ≠ some (EV.u (T.obj ps)) :=
 nomore_kind (by show ∀ t, t < 61 → t ∉ [25, 26, 27] → kinds.getD t 0 ≠ 12; decide)
section
variable {k : Tree} {env : List (EV U)} {X : Cx U} {R : List (EV U) → List (EV U) → Prop}
end
theorem and32 {w : Int} (h : isW w) : bits .and .u64 w 4294967295 = w % 4294967296 := and_mod 32 w (by decide) h.1 h.2
theorem idxW_lo {s w : Int} (h : isW w) : -1 ≤ idxW s w ∧ idxW s w ≤ 65534 := by
 obtain ⟨h0, h1⟩ := h
 unfold idxW; split <;> omega
theorem mod3 {M : MemSt} (hM : M.fine) (x : Int) : IntKind.i64.wrap (((M.load x).n % 4294967296).tmod 3) = (M.load x).n % 4294967296 % 3 := by
 have h := n_load hM x
 obtain ⟨h0, h1⟩ := h
 rw [Int.tmod_eq_emod_of_nonneg (by omega), wrap_small (by omega) (by omega)]
theorem low32 {M : MemSt} (hM : M.fine) (x : Int) : (M.load x).n.tmod 4294967296 = (M.load x).n % 4294967296 := Int.tmod_eq_emod_of_nonneg (n_load hM x).1
section
variable {t ls s g wo lm ea ep ec tp i st w : Int} {M : MemSt}
theorem ret_3y (h : (M.cas st w (topW i w)).h = true) : RetSt.step ⟨[t, ls, s, g, wo, lm, ea, ep, ec, tp], i, 1, st, 3, w, 0⟩ M = (⟨[t, ls, s, g, wo, lm, ea, ep, ec, tp], i, 9, 0, 0, 0, 0⟩, M.cas st w (topW i w)) := by
 show (if (M.cas st w (topW i w)).h = true then _ else _, _) = _
 rw [if_pos h]
theorem ret_3n (h : (M.cas st w (topW i w)).h = false) : RetSt.step ⟨[t, ls, s, g, wo, lm, ea, ep, ec, tp], i, 1, st, 3, w, 0⟩ M = (⟨[t, ls, s, g, wo, lm, ea, ep, ec, tp], i, 1, st, 1, 0, 0⟩, M.cas st w (topW i w)) := by
 show (if (M.cas st w (topW i w)).h = true then _ else _, _) = _
 rw [if_neg (by rw [h]; decide)]
end
theorem out_qIdx (a b n w : Int) : cQIdx.out [.i a, .i b, .i n, .i w] = [.i (idxW n w)] := rfl
theorem out_qTop (i w : Int) : cQTop.out [.i i, .i w] = [.i (topW i w)] := rfl
theorem new_no {l : List Int} {s i : Int} (h : i < 0 ∨ s ≤ i) : RetSt.new l s i = ⟨l, i, 9, 0, 0, 0, 3⟩ := if_pos h
theorem new_ok {l : List Int} {s i : Int} (h : ¬ (i < 0 ∨ s ≤ i)) : RetSt.new l s i = ⟨l, i, 0, 0, 0, 0, 0⟩ := if_neg h
set_option maxRecDepth 10000
theorem vRNew (P : Program) (hs : List (Nat × Nat × List Nat)) : ∀ ins, ins.length = cRNew.nin → cRNew.pre ins → tRNew.sat { cxMi P with hints := hs } (ctrR cRNew) ins := by
 rintro ins _ ⟨t, ls, s, g, wo, lm, ea, ep, ec, tp, i, rfl, g3⟩
 unfold tRNew
 repeat' (first
  | (first
    | (with_reducible refine st_need ?_ ?_
       focus (simp only [dn, reduceCtorEq, g3, va_map] <;> first | omega | assumption))
    | (with_reducible refine st_and ?_ ?_)
    | (with_reducible exact st_ok)
    | (with_reducible refine st_br (fun hc => ?_) (fun hc => ?_) <;> (simp only [dn, reduceCtorEq, g3, va_map] at hc) <;> (try (exfalso; first | contradiction | omega)))
    | (refine st_call (by rfl) (by simp only [dn, reduceCtorEq, g3, va_map] <;> rfl) ?_ (by rfl <;> rfl) (by simp only [dn] <;> rfl) ?_
       focus (first | rfl)))
  | (refine st_mk (by rfl) (by simp only [dn, reduceCtorEq, va_map] <;> rfl) ?_ (by simp only [dn] <;> rfl) ?_
     focus first | exact ⟨_, _, _, _, _, _, _, _, _, _, _, _, rfl, by decide⟩ | exact ⟨_, _, _, _, _, _, _, _, _, _, _, rfl, by omega, by omega, g3⟩)
  | (refine st_ret (by simp only [dn, reduceCtorEq, va_map] <;> rfl) ?_
     show [EV.u (U.ret _)] = [EV.u (U.ret (RetSt.new _ _ _))]
     first
      | (rw [new_no (by omega)]; done)
      | (rw [new_ok (by omega)]; done))
  | fail "no step")
theorem hRNew : cRNew.Holds objs Tryz.prog := runCtr_holds (X := { cxMi Tryz.prog with hints := hsRNew }) objsOk mixed noCts (callable _ Tryz.func22 (by kernel_rfl) (by kernel_rfl)) (by rintro ins _ ⟨_, _, _, _, _, _, _, _, _, _, _, rfl, _⟩; rfl) (by rw [rRNew]; exact vRNew _ _)
theorem vQRNew (P : Program) (hs : List (Nat × Nat × List Nat)) : ∀ ins, ins.length = cQRNew.nin → cQRNew.pre ins → tQRNew.sat { cxMi P with hints := hs } (ctrR cQRNew) ins := by
 rintro ins _ ⟨t, ls, s, g, wo, lm, ea, ep, ec, tp, i, rfl, g3⟩
 unfold tQRNew
 repeat' (first
  | (first
    | (with_reducible refine st_need ?_ ?_
       focus (simp only [dn, reduceCtorEq, g3, va_map] <;> first | omega | assumption))
    | (with_reducible refine st_and ?_ ?_)
    | (with_reducible exact st_ok)
    | (with_reducible refine st_br (fun hc => ?_) (fun hc => ?_) <;> (simp only [dn, reduceCtorEq, g3, va_map] at hc) <;> (try (exfalso; first | contradiction | omega)))
    | (refine st_call (by rfl) (by simp only [dn, reduceCtorEq, g3, va_map] <;> rfl) ?_ (by rfl <;> rfl) (by simp only [dn] <;> rfl) ?_
       focus (first | rfl)))
  | (refine st_mk (by rfl) (by simp only [dn, reduceCtorEq, va_map] <;> rfl) ?_ (by simp only [dn] <;> rfl) ?_
     focus first | exact ⟨_, _, _, _, _, _, _, _, _, _, _, _, rfl, by decide⟩ | exact ⟨_, _, _, _, _, _, _, _, _, _, _, rfl, by omega, by omega, g3⟩)
  | (refine st_ret (by simp only [dn, reduceCtorEq, va_map] <;> rfl) ?_
     show [EV.u (U.rret _)] = [EV.u (U.rret (RetSt.new _ _ _))]
     first
      | (rw [new_no (by omega)]; done)
      | (rw [new_ok (by omega)]; done))
  | fail "no step")
theorem hQRNew : cQRNew.Holds objs Tryz.prog := runCtr_holds (X := { cxMi Tryz.prog with hints := hsQRNew }) objsOk mixed noCts (callable _ Tryz.func101 (by kernel_rfl) (by kernel_rfl)) (by rintro ins _ ⟨_, _, _, _, _, _, _, _, _, _, _, rfl, _⟩; rfl) (by rw [rQRNew]; exact vQRNew _ _)
theorem hctsMr : ∀ (ci : Nat) (c : Ctr U), ctsMr[ci]? = some c → c.Holds objs Tryz.prog := by
 intro ci c h
 match ci, h with
 | 0, h => cases h; exact hLoad
 | 1, h => cases h; exact hStore
 | 2, h => cases h; exact hCAS
 | 3, h => cases h; exact hGetTop
 | 4, h => cases h; exact hPuT
 | 5, h => cases h; exact hRead
 | n + 6, h => cases h
theorem hctsMq : ∀ (ci : Nat) (c : Ctr U), ctsMq[ci]? = some c → c.Holds objs Tryz.prog := by
 intro ci c h
 match ci, h with
 | 0, h => cases h; exact hQLoad
 | 1, h => cases h; exact hQStore
 | 2, h => cases h; exact hQCAS
 | 3, h => cases h; exact hQIdx
 | 4, h => cases h; exact hQTop
 | n + 5, h => cases h
set_option maxHeartbeats 8000000 in
theorem vRStep (P : Program) (hs : List (Nat × Nat × List Nat)) : ∀ ins, ins.length = cRStep.nin → cRStep.pre ins → tRStep.sat { cxMr P with hints := hs } (ctrR cRStep) ins := by
 rintro ins _ ⟨F, M, rfl, hM⟩
 have hA : ∀ x, bits .and .u64 (M.load x).n 4294967295 = (M.load x).n % 4294967296 := fun x => and32 (n_load hM x)
 have h3 := mod3 hM
 unfold tRStep
 refine st_and (st_opn (T := retA) (by rfl) ?_) (st_and (st_opn (T := retB1) (by rfl) ?_) (st_and (st_opn (T := retB2) (by rfl) ?_) (st_and (st_opn (T := retB3) (by rfl) ?_) (st_and (st_opn (T := retC) (by rfl) ?_) (st_and (st_opn (T := retR) (by rfl) ?_) (nomore_ret))))))
 (rintro ps hl ⟨t, ls, s, g, wo, lm, ea, ep, ec, tp, i, rfl, g1, g2, g3⟩ he
  simp only [List.getElem?_cons_zero, retA, retAObj, Option.some.injEq, EV.u.injEq, U.ret.injEq] at he
  subst he
  simp only [List.cons_append, List.nil_append]
  have hTg : True := trivial
  skip)
 rotate_left
 (rintro ps hl ⟨t, ls, s, g, wo, lm, ea, ep, ec, tp, i, st, w, j, rfl, g1, g2, g3, hw⟩ he
  simp only [List.getElem?_cons_zero, retB1, retB1Obj, Option.some.injEq, EV.u.injEq, U.ret.injEq] at he
  subst he
  simp only [List.cons_append, List.nil_append]
  have hTg := tag_next' hw
  skip)
 rotate_left
 (rintro ps hl ⟨t, ls, s, g, wo, lm, ea, ep, ec, tp, i, st, w, j, rfl, g1, g2, g3, hw, rfl⟩ he
  simp only [List.getElem?_cons_zero, retB2, retB2Obj, Option.some.injEq, EV.u.injEq, U.ret.injEq] at he
  subst he
  simp only [List.cons_append, List.nil_append]
  have hTg := tag_next' hw
  skip)
 rotate_left
 (rintro ps hl ⟨t, ls, s, g, wo, lm, ea, ep, ec, tp, i, st, w, j, rfl, g1, g2, g3, hw⟩ he
  simp only [List.getElem?_cons_zero, retB3, retB3Obj, Option.some.injEq, EV.u.injEq, U.ret.injEq] at he
  subst he
  simp only [List.cons_append, List.nil_append]
  have hTg := tag_next' hw
  skip)
 rotate_left
 (rintro ps hl ⟨t, ls, s, g, wo, lm, ea, ep, ec, tp, i, st, w, j, rfl, _⟩ he
  simp only [List.getElem?_cons_zero, retC, retCObj, Option.some.injEq, EV.u.injEq, U.ret.injEq] at he
  subst he
  simp only [List.cons_append, List.nil_append]
  have hTg : True := trivial
  skip)
 rotate_left
 (rintro ps hl ⟨t, ls, s, g, wo, lm, ea, ep, ec, tp, i, e, rfl, hne⟩ he
  simp only [List.getElem?_cons_zero, retR, retRObj, Option.some.injEq, EV.u.injEq, U.ret.injEq] at he
  subst he
  simp only [List.cons_append, List.nil_append]
  have hTg : True := trivial
  skip)
 rotate_left
 all_goals
  repeat' (first
   | (first
     | (with_reducible refine st_need ?_ ?_
        focus (simp only [dn, reduceCtorEq, hA, h3, hTg, va_map, Int.zero_mul, Int.add_zero] <;> first | omega | assumption))
     | (with_reducible refine st_and ?_ ?_)
     | (with_reducible exact st_ok)
     | (with_reducible refine st_br (fun hc => ?_) (fun hc => ?_) <;> (simp only [dn, reduceCtorEq, hA, h3, hTg, va_map, Int.zero_mul, Int.add_zero] at hc) <;> (try (exfalso; first | contradiction | omega)))
     | (refine st_call (by rfl) (by simp only [dn, reduceCtorEq, hA, h3, hTg, va_map, Int.zero_mul, Int.add_zero] <;> rfl) ?_ (by simp only [out_load, out_store, out_cas, out_getTop, out_puT, out_read] <;> rfl) (by simp only [dn] <;> rfl) ?_
        focus (first | exact ⟨_, _, rfl⟩ | exact ⟨_, _, _, rfl⟩ | exact ⟨_, _, _, _, rfl⟩ | exact ⟨_, rfl, hw⟩ | exact ⟨_, _, _, _, rfl, n_load hM _⟩ | exact ⟨_, _, rfl, (idxW_lo hw).1, (idxW_lo hw).2, by omega, by omega⟩ | exact pre_puT (by omega) (by omega))))
   | (refine st_mk (by rfl) (by simp only [dn, reduceCtorEq, hA, h3, va_map] <;> rfl) ?_ (by simp only [dn] <;> rfl) ?_
      focus
      (first | refine ⟨_, _, _, _, _, _, _, _, _, _, _, _, _, _, rfl, ?_⟩ | refine ⟨_, _, _, _, _, _, _, _, _, _, _, rfl, ?_⟩ | refine ⟨_, _, _, _, _, _, _, _, _, _, _, _, rfl, ?_⟩)
      (repeat' with_reducible apply And.intro) <;> first | omega | assumption | exact n_load hM _ | rfl | trivial)
   | (refine st_ret (by simp only [dn, reduceCtorEq, va_map] <;> rfl) ?_
      show _ = [EV.u (U.ret (RetSt.step _ M).1), .u (.mem (RetSt.step _ M).2), .b ((RetSt.step _ M).1.line == 9)]
      first
       | rfl
       | (rw [ret_3y (by assumption)]; rfl)
       | (rw [ret_3n (by assumption)]; rfl))
   | fail "no step")
theorem hRStep : cRStep.Holds objs Tryz.prog := runCtr_holds (X := { cxMr Tryz.prog with hints := hsRStep }) objsOk mixed hctsMr (callable _ Tryz.func17 (by kernel_rfl) (by kernel_rfl)) (by rintro ins _ ⟨_, _, rfl, _⟩; rfl) (by rw [rRStep]; exact vRStep _ _)
set_option maxHeartbeats 8000000 in
theorem vQRStep (P : Program) (hs : List (Nat × Nat × List Nat)) : ∀ ins, ins.length = cQRStep.nin → cQRStep.pre ins → tQRStep.sat { cxMq P with hints := hs } (ctrR cQRStep) ins := by
 rintro ins _ ⟨F, M, rfl, hM⟩
 have hA := low32 hM
 have h3 := mod3 hM
 unfold tQRStep
 refine st_and (st_opn (T := rretA) (by rfl) ?_) (st_and (st_opn (T := rretB) (by rfl) ?_) (st_and (st_opn (T := rretR) (by rfl) ?_) (nomore_rret)))
 (rintro ps hl ⟨t, ls, s, g, wo, lm, ea, ep, ec, tp, i, rfl, g1, g2, g3⟩ he
  simp only [List.getElem?_cons_zero, rretA, rretAObj, Option.some.injEq, EV.u.injEq, U.rret.injEq] at he
  subst he
  simp only [List.cons_append, List.nil_append]
  have hI : True := trivial
  skip)
 rotate_left
 (rintro ps hl ⟨t, ls, s, g, wo, lm, ea, ep, ec, tp, i, st, pl, w, line, rfl, g1, g2, g3, hw, hn⟩ he
  simp only [List.getElem?_cons_zero, rretB, rretBObj, Option.some.injEq, EV.u.injEq, U.rret.injEq] at he
  subst he
  simp only [List.cons_append, List.nil_append]
  have hI : IntKind.u64.wrap (IntKind.i64.wrap (idxW s w + 1)) = idxW s w + 1 := by
   have := idxW_lo (s := s) hw
   rw [wrap_small (by omega) (by omega), wrap_u64' (by omega) (by omega)]
  rcases hn with ⟨rfl, rfl | rfl | rfl⟩ | ⟨rfl, rfl⟩
  all_goals try simp only [reduceIte, Int.reduceEq, not_true_eq_false, not_false_eq_true, and_true, and_false, true_and, false_and, reduceCtorEq])
 rotate_left 4
 (rintro ps hl ⟨t, ls, s, g, wo, lm, ea, ep, ec, tp, i, e, rfl, hne⟩ he
  simp only [List.getElem?_cons_zero, rretR, rretRObj, Option.some.injEq, EV.u.injEq, U.rret.injEq] at he
  subst he
  simp only [List.cons_append, List.nil_append]
  have hI : True := trivial
  skip)
 rotate_left
 all_goals
  repeat' (first
   | (first
     | (with_reducible refine st_need ?_ ?_
        focus (simp only [dn, reduceCtorEq, hA, h3, hI, va_map] <;> first | omega | assumption))
     | (with_reducible refine st_and ?_ ?_)
     | (with_reducible exact st_ok)
     | (with_reducible refine st_br (fun hc => ?_) (fun hc => ?_) <;> (simp only [dn, reduceCtorEq, hA, h3, hI, va_map] at hc) <;> (try (exfalso; first | contradiction | omega)))
     | (refine st_call (by rfl) (by simp only [dn, reduceCtorEq, hA, h3, hI, va_map] <;> rfl) ?_ (by simp only [fo_load, fo_store, fo_cas, out_qIdx, out_qTop] <;> rfl) (by simp only [dn] <;> rfl) ?_
        focus (first | exact ⟨_, _, rfl, hM.1⟩ | exact ⟨_, _, _, rfl, hM.1⟩ | exact ⟨_, _, _, _, rfl, hM.1⟩ | exact ⟨_, _, _, _, rfl, hw⟩ | exact ⟨_, _, rfl, by omega, by omega, hw⟩)))
   | (refine st_mk (by rfl) (by simp only [dn, reduceCtorEq, hA, h3, va_map] <;> rfl) ?_ (by simp only [dn] <;> rfl) ?_
      focus
      (first | refine ⟨_, _, _, _, _, _, _, _, _, _, _, _, _, _, _, rfl, ?_⟩ | refine ⟨_, _, _, _, _, _, _, _, _, _, _, rfl, ?_⟩ | refine ⟨_, _, _, _, _, _, _, _, _, _, _, _, rfl, ?_⟩)
      (repeat' with_reducible apply And.intro) <;> first | omega | assumption | exact n_load hM _ | rfl | trivial)
   | (refine st_ret (by simp only [dn, reduceCtorEq, va_map] <;> rfl) ?_
      show _ = [EV.u (U.rret (RetSt.step _ M).1), .u (.rmem (RetSt.step _ M).2), .b ((RetSt.step _ M).1.line == 9)]
      first
       | rfl
       | (rw [ret_3y (by assumption)]; rfl)
       | (rw [ret_3n (by assumption)]; rfl))
   | fail "no step")
theorem hQRStep : cQRStep.Holds objs Tryz.prog := runCtr_holds (X := { cxMq Tryz.prog with hints := hsQRStep }) objsOk mixed hctsMq (callable _ Tryz.func97 (by kernel_rfl) (by kernel_rfl)) (by rintro ins _ ⟨_, _, rfl, _⟩; rfl) (by rw [rQRStep]; exact vQRStep _ _)
end Go.Proofs.YtdldcofddfkkbaaGreat
