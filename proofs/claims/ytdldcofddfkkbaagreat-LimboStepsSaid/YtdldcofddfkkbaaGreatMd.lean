/- The document's Collects: a step (printed by gen_lm.py). -/
import Derived.Test.YtdldcofddfkkbaaGreatMc
import Derived.Test.YtdldcofddfkkbaaGreatMdT
namespace Go.Proofs.YtdldcofddfkkbaaGreat
set_option linter.unusedVariables false
set_option linter.unusedSimpArgs false
set_option linter.unusedSectionVars false
open Go Go.RowKit

theorem hctsMd : ∀ (ci : Nat) (c : Ctr U), ctsMd[ci]? = some c → c.Holds objs Tryz.prog := by
  intro ci c h
  match ci, h with
  | 0, h => cases h; exact hQLoad
  | 1, h => cases h; exact hQStore
  | 2, h => cases h; exact hQCAS
  | 3, h => cases h; exact hQIdx
  | 4, h => cases h; exact hQTop
  | 5, h => cases h; exact hQAdd
  | n + 6, h => cases h
theorem low16n {M : MemSt} (hM : M.fine) (x : Int) : IntKind.i64.wrap (IntKind.i64.wrap (bits .and .u64 ((M.load x).n.fdiv (2 ^ min (Int.toNat 0) IntKind.u64.bits)) 65535) - 1) = (M.load x).n % 65536 - 1 := by
  have h := n_load hM x
  have e : (M.load x).n.fdiv (2 ^ min (Int.toNat 0) IntKind.u64.bits) = (M.load x).n := shr_0 _
  have e2 : bits .and .u64 (M.load x).n 65535 = (M.load x).n % 65536 := and_16 h
  rw [e, e2, wrap_small (n := (M.load x).n % 65536) (by omega) (by omega), wrap_small (by omega) (by omega)]
theorem idx1 {s w : Int} (h : isW w) : IntKind.u64.wrap (IntKind.i64.wrap (idxW s w + 1)) = idxW s w + 1 := by
  have := idxW_lo (s := s) h
  rw [wrap_small (by omega) (by omega), wrap_u64' (by omega) (by omega)]
set_option maxRecDepth 10000
set_option maxHeartbeats 32000000 in
theorem vQCStep (P : Program) (hs : List (Nat × Nat × List Nat)) : ∀ ins, ins.length = cQCStep.nin → cQCStep.pre ins → tQCStep.sat { cxMd P with hints := hs } (ctrR cQCStep) ins := by
  rintro ins _ ⟨F, M, rfl, hM⟩
  have hA := low32 hM
  have hI := i32 hM
  have hS := low16n hM
  have hz : isWd 0 := ⟨by decide, by decide⟩
  unfold tQCStep
  refine st_and (st_opn (T := rcolA) (by rfl) ?_) (st_and (st_opn (T := rcolB) (by rfl) ?_) (st_and (st_opn (T := rcolR) (by rfl) ?_) (nomore_rcol)))
  (rintro ps hl ⟨t, ls, s, g, wo, lm, ea, ep, ec, tp, c, p, al, aw, an, bad, av, ll, lw, ai, line, i, e, rfl, g1, g2, gl0, gl1, haw, hlw, hn⟩ he
   simp only [List.getElem?_cons_zero, rcolA, rcolAObj, Option.some.injEq, EV.u.injEq, U.rcol.injEq] at he
   subst he
   simp only [List.cons_append, List.nil_append]
   rcases hn with ⟨rfl, rfl, rfl, gc, gc1, gc2, gp, ⟨rfl, k0⟩ | ⟨rfl | rfl, hp⟩, han, rfl⟩ | ⟨rfl, rfl, rfl, rfl | ⟨rfl, rfl, gai⟩⟩ | ⟨rfl, rfl, gi, gi1⟩ | rfl)
  (have hAn : IntKind.i64.wrap (an + 1) = an + 1 := wrap_small (by omega) (by omega)
   have hAn2 : True := trivial
   have hN : True := trivial
   have hP0 : True := trivial
   have hP2 : True := trivial
   have hJ : True := trivial
   have hL : True := trivial
   have hw : True := trivial
   rcases turn_case 0 c with ⟨ha, hb0⟩ | ⟨ha, hb0⟩
   (have hb : turnTo 0 c = an + 1 := by omega
    have k1 : an = c := by omega)
   rotate_left
   (have hb : turnTo 0 c = an := by omega
    have k1 : ¬ an = c := by omega))
  rotate_left
  (have han1 := han rfl
   have hP2 := (u32w haw hp).2
   have hP0 : IntKind.u64.wrap p = p := wrap_u64' (by omega) (by have := haw.1; omega)
   have hAn : IntKind.i64.wrap (an + 1) = an + 1 := wrap_small (by omega) (by omega)
   have hAn2 : IntKind.i64.wrap (an + 1 + 1) = an + 1 + 1 := wrap_small (by omega) (by omega)
   have hN : True := trivial
   have hJ : True := trivial
   have hL : True := trivial
   have hw : True := trivial
   rcases turn_case (an + 1) c with ⟨ha, hb0⟩ | ⟨ha, hb0⟩
   (have hb : turnTo (an + 1) c = an + 1 + 1 := by omega
    have k1 : an + 1 = c := by omega)
   rotate_left
   (have hb : turnTo (an + 1) c = an + 1 := by omega
    have k1 : ¬ an + 1 = c := by omega))
  rotate_left
  (have hP2 := (u32w haw hp).2
   have hP0 : IntKind.u64.wrap p = p := wrap_u64' (by omega) (by have := haw.1; omega)
   have hAn : True := trivial
   have hAn2 : True := trivial
   have hN : True := trivial
   have hJ : True := trivial
   have hL : True := trivial
   have hb : True := trivial
   have hw : True := trivial)
  rotate_left
  (have hw : isW lw := hlw
   have hAn : True := trivial
   have hAn2 : True := trivial
   have hN : True := trivial
   have hP0 : True := trivial
   have hP2 : True := trivial
   have hJ : True := trivial
   have hL : True := trivial
   have hb : True := trivial)
  rotate_left
  (have hw : isW lw := hlw
   have hix := idxW_hi g1 lw
   have hAn : True := trivial
   have hAn2 : True := trivial
   have hN : True := trivial
   have hP0 : True := trivial
   have hP2 : True := trivial
   have hJ : True := trivial
   have hL : True := trivial
   have hb : True := trivial)
  rotate_left
  (have hAn : True := trivial
   have hAn2 : True := trivial
   have hN : True := trivial
   have hP0 : True := trivial
   have hP2 : True := trivial
   have hJ : True := trivial
   have hL : True := trivial
   have hb : True := trivial
   have hw : True := trivial)
  rotate_left
  (have hAn : True := trivial
   have hAn2 : True := trivial
   have hN : True := trivial
   have hP0 : True := trivial
   have hP2 : True := trivial
   have hJ : True := trivial
   have hL : True := trivial
   have hb : True := trivial
   have hw : True := trivial)
  rotate_left
  (rintro ps hl ⟨t, ls, s, g, wo, lm, ea, ep, ec, tp, c, p, al, aw, an, bad, av, ll, lw, ai, line, i, nx, n, e, fl, fi, fg, pl, pw, rfl, g1, g2, gl0, gl1, he0, hfg, hpw, gn, hn⟩ he
   simp only [List.getElem?_cons_zero, rcolB, rcolBObj, Option.some.injEq, EV.u.injEq, U.rcol.injEq] at he
   subst he
   simp only [List.cons_append, List.nil_append]
   rcases hn with ⟨rfl, gi, gi1, gi2⟩ | ⟨rfl, gi, gi1, gi2, rfl, ⟨rfl, rfl⟩ | ⟨rfl, rfl⟩ | ⟨rfl, rfl | rfl | rfl⟩ | ⟨rfl, rfl⟩⟩ | rfl)
  (have hN : True := trivial
   have hJ : True := trivial
   have hL : True := trivial
   have hw : isW pw := hpw
   have hAn : True := trivial
   have hAn2 : True := trivial
   have hP0 : True := trivial
   have hP2 : True := trivial
   have hb : True := trivial)
  rotate_left
  (have hN : True := trivial
   have hJ : True := trivial
   have hL : IntKind.u64.wrap lm = lm := wrap_u64' (by omega) (by omega)
   have hw : isW pw := hpw
   have hAn : True := trivial
   have hAn2 : True := trivial
   have hP0 : True := trivial
   have hP2 : True := trivial
   have hb : True := trivial)
  rotate_left
  (have hN : True := trivial
   have hJ : True := trivial
   have hL : IntKind.u64.wrap lm = lm := wrap_u64' (by omega) (by omega)
   have hw : isW pw := hpw
   have hAn : True := trivial
   have hAn2 : True := trivial
   have hP0 : True := trivial
   have hP2 : True := trivial
   have hb : True := trivial)
  rotate_left
  (have hN : True := trivial
   have hJ : True := trivial
   have hL : IntKind.u64.wrap lm = lm := wrap_u64' (by omega) (by omega)
   have hw : isW pw := hpw
   have hAn : True := trivial
   have hAn2 : True := trivial
   have hP0 : True := trivial
   have hP2 : True := trivial
   have hb : True := trivial)
  rotate_left
  (have hN : True := trivial
   have hJ := idx1 (s := s) hpw
   have hL : IntKind.u64.wrap lm = lm := wrap_u64' (by omega) (by omega)
   have hw : isW pw := hpw
   have hAn : True := trivial
   have hAn2 : True := trivial
   have hP0 : True := trivial
   have hP2 : True := trivial
   have hb : True := trivial)
  rotate_left
  (have hN : IntKind.i64.wrap (n + 1) = n + 1 := wrap_small (by omega) (by omega)
   have hJ : True := trivial
   have hL : IntKind.u64.wrap lm = lm := wrap_u64' (by omega) (by omega)
   have hw : isW pw := hpw
   have hAn : True := trivial
   have hAn2 : True := trivial
   have hP0 : True := trivial
   have hP2 : True := trivial
   have hb : True := trivial)
  rotate_left
  (have hN : IntKind.i64.wrap (n + 1) = n + 1 := wrap_small (by omega) (by omega)
   have hJ : True := trivial
   have hL : IntKind.u64.wrap lm = lm := wrap_u64' (by omega) (by omega)
   have hw : isW pw := hpw
   have hAn : True := trivial
   have hAn2 : True := trivial
   have hP0 : True := trivial
   have hP2 : True := trivial
   have hb : True := trivial)
  rotate_left
  (have hN : True := trivial
   have hJ : True := trivial
   have hL : True := trivial
   have hw : isW pw := hpw
   have hAn : True := trivial
   have hAn2 : True := trivial
   have hP0 : True := trivial
   have hP2 : True := trivial
   have hb : True := trivial)
  rotate_left
  (rintro ps hl ⟨t, ls, s, g, wo, lm, ea, ep, ec, tp, x0, x1, x2, c, p, al, aw, an, bad, av, ll, lw, ai, e, rfl, hne⟩ he
   simp only [List.getElem?_cons_zero, rcolR, rcolRObj, Option.some.injEq, EV.u.injEq, U.rcol.injEq] at he
   subst he
   simp only [List.cons_append, List.nil_append]
   have hAn : True := trivial
   have hAn2 : True := trivial
   have hN : True := trivial
   have hP0 : True := trivial
   have hP2 : True := trivial
   have hJ : True := trivial
   have hL : True := trivial
   have hb : True := trivial
   have hw : True := trivial
   skip)
  rotate_left
  all_goals try simp only [reduceIte, Int.reduceEq, Int.reduceSub, not_true_eq_false, not_false_eq_true, and_true, and_false, true_and, false_and, or_false, false_or, or_true, true_or, reduceCtorEq, if_true, if_false]
  all_goals try simp only [ne_eq, reduceIte, Int.reduceEq, reduceCtorEq, if_false, if_true, ite_false, ite_true, not_false_eq_true, not_true_eq_false]
  all_goals
    repeat' (first
      | (first
        | (with_reducible refine st_need ?_ ?_
           focus (simp only [dn, reduceCtorEq, hA, hI, hS, hP0, hP2, hAn, hAn2, hN, hJ, hL, va_map] <;> first | omega | assumption))
        | (with_reducible refine st_and ?_ ?_)
        | (with_reducible exact st_ok)
        | (with_reducible refine st_br (fun hc => ?_) (fun hc => ?_) <;> (simp only [dn, reduceCtorEq, hA, hI, hS, hP0, hP2, hAn, hAn2, hN, hJ, hL, va_map] at hc) <;> (try (exfalso; first | contradiction | omega)))
        | (refine st_call (by rfl) (by simp only [dn, reduceCtorEq, hA, hI, hS, hP0, hP2, hAn, hAn2, hN, hJ, hL, va_map] <;> rfl) ?_ (by simp only [fo_load, fo_store, fo_cas, fo_add, out_qIdx, out_qTop] <;> rfl) (by simp only [dn] <;> rfl) ?_
           focus (first | exact ⟨_, _, rfl, hM.1⟩ | exact ⟨_, _, _, rfl, hM.1⟩ | exact ⟨_, _, _, _, rfl, hM.1⟩ | exact ⟨_, _, _, _, rfl, n_load hM _⟩ | exact ⟨_, _, _, _, rfl, hw⟩ | exact ⟨_, _, rfl, by omega, by omega, hw⟩)))
      | (refine st_mk (by rfl) (by simp only [dn, reduceCtorEq, hA, hI, hS, hAn, hAn2, hN, va_map] <;> rfl) ?_ (by simp only [dn] <;> rfl) ?_
         focus
         (first | refine ⟨_, _, _, _, _, _, _, _, _, _, _, _, _, _, _, _, _, _, _, _, _, _, _, rfl, ?_⟩ | refine ⟨_, _, _, _, _, _, _, _, _, _, _, _, _, _, _, _, _, _, _, _, _, _, _, _, rfl, ?_⟩ | refine ⟨_, _, _, _, _, _, _, _, _, _, _, _, _, _, _, _, _, _, _, _, _, _, _, _, _, _, _, _, _, _, rfl, ?_⟩)
         (repeat' with_reducible apply And.intro) <;> first | assumption | exact n_load hM _ | (with_reducible refine .inl ?_; (repeat' with_reducible apply And.intro) <;> first | rfl | assumption | omega; done) | (with_reducible refine .inr (.inl ?_); (repeat' with_reducible apply And.intro) <;> first | rfl | assumption | omega; done) | (with_reducible refine .inr (.inr (.inl ?_)); (repeat' with_reducible apply And.intro) <;> first | rfl | assumption | omega; done) | (with_reducible refine .inr (.inr ?_); rfl) | (with_reducible refine .inr (.inr (.inr ?_)); rfl) | omega | rfl | trivial)
      | (refine st_ret (by simp only [dn, reduceCtorEq, va_map] <;> rfl) ?_
         show _ = [EV.u (U.rcol (ColSt.step _ M).1), .u (.rmem (ColSt.step _ M).2), .b ((ColSt.step _ M).1.line == 9)]
         first
           | rfl
           | (rw [c00y (by assumption), turn0y (by omega), hb]; rfl)
           | (rw [c00y (by assumption), turn0n (by omega)]; rfl)
           | (rw [c00n (by assumption)]; rfl)
           | (rw [c01y (.inl (by assumption)), turn1y (by omega), hb]; rfl)
           | (rw [c01y (.inl (by assumption)), turn1n (by omega)]; rfl)
           | (rw [c01y (.inr (by assumption)), turn1y (by omega), hb]; rfl)
           | (rw [c01y (.inr (by assumption)), turn1n (by omega)]; rfl)
           | (rw [c01n (by omega)]; rfl)
           | (rw [c02y (by assumption)]; rfl)
           | (rw [c02n (by assumption)]; rfl)
           | (rw [c11y (by assumption)]; rfl)
           | (rw [c12y (by assumption)]; rfl)
           | (rw [c12n (by assumption)]; rfl)
           | (rw [c30y (by assumption)]; rfl)
           | (rw [c32n (by assumption)]; rfl)
           | (rw [c11n (by omega)]; rfl)
           | (rw [c30n (by omega)]; rfl)
           | (rw [c32y (by assumption), freed_y (by omega)]; rfl)
           | (rw [c33, freed_y (by omega)]; rfl)
           | (rw [c32y (by assumption), freed_n (by omega)]; rfl)
           | (rw [c33, freed_n (by omega)]; rfl))
      | fail "no step")
theorem hQCStep : cQCStep.Holds objs Tryz.prog := runCtr_holds (X := { cxMd Tryz.prog with hints := hsQCStep }) objsOk mixed hctsMd (callable _ Tryz.func99 (by kernel_rfl) (by kernel_rfl)) (by rintro ins _ ⟨_, _, rfl, _⟩; rfl) (by rw [rQCStep]; exact vQCStep _ _)
end Go.Proofs.YtdldcofddfkkbaaGreat
