/- The step of the document's Find (printed by gen_qb.py). -/
import Derived.Test.YtbmbiiiacajolaaGreatQbU
import Derived.Test.YtbmbiiiacajolaaGreatQbT
import Derived.Test.YtbmbiiiacajolaaGreatQaY
namespace Go.Proofs.YtbmbiiiacajolaaGreat
set_option linter.unusedVariables false
set_option linter.unusedSimpArgs false
set_option linter.unusedSectionVars false
open Go Go.RowKit

theorem hctsQt : ∀ (ci : Nat) (c : Ctr U), ctsQt[ci]? = some c → c.Holds objs Tryz.prog := by
  intro ci c h
  match ci, h with
  | 0, h => cases h; exact hNextQ
  | 1, h => cases h; exact hRAt
  | 2, h => cases h; exact hIdxQ
  | 3, h => cases h; exact hQLoad
  | 4, h => cases h; exact hQCAS
  | n + 5, h => cases h
set_option maxRecDepth 10000 in
set_option maxHeartbeats 16000000 in
theorem vQFStep (P : Program) (hs : List (Nat × Nat × List Nat)) : ∀ ins, ins.length = cQFStep.nin → cQFStep.pre ins → tQFStep.sat { cxQt P with hints := hs } (ctrR cQFStep) ins := by
  rintro ins _ ⟨F, M, rfl, hM⟩
  unfold tQFStep
  refine st_and (st_opn (T := rfindT) (by rfl) ?_) nomore_rfind
  rintro ps hl ⟨a0, a1, a2, a3, a4, a5, a6, a7, a8, a9, a10, a11, a12, key, line, l, pred, ref, cur, w, r, P, S, K, rfl, hn, hc1, hc2, hw3, g1, g2, e1, e2, e3⟩ he
  simp only [List.getElem?_cons_zero, rfindT, rfindObj, Option.some.injEq, EV.u.injEq, U.rfind.injEq] at he
  subst he
  simp only [List.cons_append, List.nil_append]
  have hwh : IntKind.i64.wrap (a2 - 1) = a2 - 1 := wrap_small (by omega) (by omega)
  rcases hn with ⟨rfl | rfl | rfl | rfl, g3, g4⟩ | ⟨rfl, rfl⟩
  (have hws := hwh
   have hwl : IntKind.i64.wrap (l - 1) = l - 1 := wrap_small (by omega) (by omega))
  rotate_left
  (have hws := hwh
   have hwl : IntKind.i64.wrap (l - 1) = l - 1 := wrap_small (by omega) (by omega))
  rotate_left
  (have hws : IntKind.u64.wrap (w - 9223372036854775808) = w % 9223372036854775808 := by
     have := hw3 rfl; have := hc2.2; rw [wrap_u64' (by omega) (by omega)]; omega
   have hwl : IntKind.i64.wrap (l - 1) = l - 1 := wrap_small (by omega) (by omega))
  rotate_left
  (have hws := hwh
   have hwl : IntKind.i64.wrap (l - 1) = l - 1 := wrap_small (by omega) (by omega))
  rotate_left
  (have hws := hwh
   have hwl := hwh)
  rotate_left
  all_goals
    repeat' (first
      | (first
        | (with_reducible refine st_need ?_ ?_
           focus (simp only [dn, reduceCtorEq, hwh, hws, hwl, va_map] <;> first | omega | assumption))
        | (with_reducible refine st_and ?_ ?_)
        | (with_reducible exact st_ok)
        | (with_reducible refine st_br (fun hc => ?_) (fun hc => ?_) <;> (simp only [dn, reduceCtorEq, hwh, hws, hwl, va_map] at hc) <;> (try (exfalso; first | contradiction | omega)))
        | (refine st_call (by rfl) (by simp only [dn, reduceCtorEq, hwh, hws, hwl, va_map] <;> rfl) ?_ (by simp only [out_nextQ, out_atQ, out_idxQ, fo_load, fo_cas] <;> rfl) (by simp only [dn] <;> rfl) ?_
           focus (first | exact ⟨_, _, _, _, _, _, _, _, _, _, _, _, _, _, _, rfl⟩ | exact ⟨_, _, rfl, hM.1⟩ | exact ⟨_, _, _, _, rfl, hM.1⟩ | exact pre_idxq hc1 | exact pre_idxq hc2 | exact pre_idxq (n_load hM _) | exact pre_idxq (wm hc2))))
      | (refine st_setl (by simp only [dn, reduceCtorEq, hwh, hws, hwl] <;> rfl) ?_)
      | (refine st_mk (by rfl) (by simp only [dn, reduceCtorEq, hwh, hws, hwl, va_map] <;> rfl) ?_ (by simp only [dn] <;> rfl) ?_
         focus exact ⟨_, _, _, _, _, _, _, _, _, _, _, _, _, _, _, _, _, _, _, _, _, _, _, _, rfl, by omega, by first | exact hc1 | exact hc2 | exact n_load hM _ | exact wm hc2 | exact isWd0, by first | exact hc2 | exact n_load hM _, by omega, g1, g2, by first | omega | (rw [List.length_set]; omega), by first | omega | (rw [List.length_set]; omega), by first | omega | (rw [List.length_set]; omega)⟩)
      | (refine st_ret (by simp only [dn, reduceCtorEq, va_map] <;> rfl) ?_
         first
           | (show _ = [EV.u (U.rfind (FindSt.step _ M).1), .u (.rmem (FindSt.step _ M).2), .b ((FindSt.step _ M).1.line == 9)]
              first
                | (rw [step_1m (by omega)]; rfl)
                | (rw [step_1n (by omega), lk_d (by assumption), dn_0 (by omega)]; rfl)
                | (rw [step_1n (by omega), lk_d (by assumption), dn_1 (by omega)]; rfl)
                | (rw [step_1n (by omega), lk_2 (by assumption)]; rfl)
                | (rw [step_2m (by omega)]; rfl)
                | (rw [step_2n (by omega)]; rfl)
                | (rw [step_3y (by assumption), lk_d (by assumption), dn_0 (by omega)]; rfl)
                | (rw [step_3y (by assumption), lk_d (by assumption), dn_1 (by omega)]; rfl)
                | (rw [step_3y (by assumption), lk_2 (by assumption)]; rfl)
                | (rw [step_3n (by assumption)]; rfl)
                | (rw [step_4y (by omega), lk_d (by assumption), dn_0 (by omega)]; rfl)
                | (rw [step_4y (by omega), lk_d (by assumption), dn_1 (by omega)]; rfl)
                | (rw [step_4y (by omega), lk_2 (by assumption)]; rfl)
                | (rw [step_4n (by omega), dn_0 (by omega)]; rfl)
                | (rw [step_4n (by omega), dn_1 (by omega)]; rfl)
                | (rw [step_9]; rfl)))
      | fail "no step")
theorem hQFStep : cQFStep.Holds objs Tryz.prog := runCtr_holds (X := { cxQt Tryz.prog with hints := hsQFStep }) objsOk mixed hctsQt (callable _ Tryz.func14 (by kernel_rfl) (by kernel_rfl)) (by rintro ins _ ⟨F, M, rfl, _⟩; rfl) (by rw [rQFStep]; exact vQFStep _ _)
end Go.Proofs.YtbmbiiiacajolaaGreat
