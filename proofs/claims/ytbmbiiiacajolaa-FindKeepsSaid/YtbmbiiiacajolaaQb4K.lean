/- Texts of this proof. -/
import Derived.Test.YtbmbiiiacajolaaB6K
import Derived.Test.YtbmbiiiacajolaaQcTK
namespace Go.Proofs.Ytbmbiiiacajolaa
set_option linter.unusedVariables false
set_option linter.unusedSimpArgs false
set_option linter.unusedSectionVars false
open Go Go.RowKit
theorem hctsQs4 : ∀ (ci : Nat) (c : Ctr U), ctsQs[ci]? = some c → c.Holds objs Try.prog := by
 intro ci c h
 match ci, h with
 | 0, h => cases h; exact hNextP
 | 1, h => cases h; exact hAt
 | 2, h => cases h; exact hLoad
 | 3, h => cases h; exact hCAS
 | 4, h => cases h; exact hFIdx1
 | 5, h => cases h; exact hFIdx2
 | 6, h => cases h; exact hFIdx3
 | 7, h => cases h; exact hFIdx4
 | n + 8, h => cases h
set_option maxRecDepth 10000 in
set_option maxHeartbeats 16000000 in
theorem vFStep4 (P : Program) (hs : List (Nat × Nat × List Nat)) : ∀ ins, ins.length = (cFStepP highX).nin → (cFStepP highX).pre ins → tFStep4.sat { cxQs P with hints := hs } (ctrR (cFStepP highX)) ins := by
 rintro ins _ ⟨F, M, rfl, hM, hF⟩
 unfold tFStep4
 have hnm := nomore_high (F := F) (ts := [11, 12, 13, 14]) (by
  intro t h5 h15 hn e
  obtain ⟨g1, g2, g3⟩ := hF
  have : t = 5 ∨ t = 6 ∨ t = 7 ∨ t = 8 ∨ t = 9 ∨ t = 10 ∨ t = 11 ∨ t = 12 ∨ t = 13 ∨ t = 14 := by omega
  rcases this with rfl | rfl | rfl | rfl | rfl | rfl | rfl | rfl | rfl | rfl <;> first | exact absurd hn (by decide) | exact absurd e g1 | exact absurd e g2 | exact absurd e g3)
 refine st_and (st_opn (T := find40) (by rfl) ?_) (st_and (st_opn (T := find41) (by rfl) ?_) (st_and (st_opn (T := find42) (by rfl) ?_) (st_and (st_opn (T := find43) (by rfl) ?_) (hnm))))
 · rintro ps hl ⟨a0, a1, a3, a4, a5, a6, a7, a8, a9, a10, a11, a12, key, line, pred, ref, cur, w, r, v0, p0, k0, s0, v1, p1, k1, s1, v2, p2, k2, s2, v3, p3, k3, s3, rfl, hn, hc1, hc2⟩ he
   simp only [List.getElem?_cons_zero, find40, find40Obj, Option.some.injEq, EV.u.injEq, U.find.injEq] at he
   subst he
   simp only [List.cons_append, List.nil_append]
   have hAN := andN hc2
   rcases hn with rfl | rfl | rfl | rfl | rfl
   all_goals
    repeat' (first
     | (first
       | (with_reducible refine st_need ?_ ?_
          focus (simp only [dn, reduceCtorEq, hAN, shr63, va_map] <;> first | omega | assumption))
       | (with_reducible refine st_and ?_ ?_)
       | (with_reducible exact st_ok)
       | (with_reducible refine st_br (fun hc => ?_) (fun hc => ?_) <;> (simp only [dn, reduceCtorEq, hAN, shr63, va_map] at hc) <;> (try (exfalso; first | contradiction | omega)))
       | (refine st_call (by rfl) (by simp only [dn, reduceCtorEq, hAN, shr63, va_map] <;> rfl) ?_ (by simp only [out_nextP, out_atP, out_load, out_cas, out_fidx4] <;> rfl) (by simp only [dn] <;> rfl) ?_
          focus (first | exact ⟨_, _, _, _, _, _, _, _, _, _, _, _, _, _, _, rfl⟩ | exact ⟨_, _, rfl⟩ | exact ⟨_, _, _, _, rfl⟩ | exact hc1 | exact hc2 | exact n_load hM _ | exact wm hc2)))
     | (refine st_rngX (fun L env' he => ?_)
        simp only [List.cons_append, List.nil_append] at he
        subst he)
     | (refine st_mk (by rfl) (by simp only [dn, reduceCtorEq, hAN, va_map] <;> rfl) ?_ (by simp only [dn] <;> rfl) ?_
        focus exact ⟨_, _, _, _, _, _, _, _, _, _, _, _, _, _, _, _, _, _, _, _, _, _, _, _, _, _, _, _, _, _, _, _, _, _, _, rfl, by omega, by first | exact hc1 | exact hc2 | exact n_load hM _ | exact wm hc2 | exact isWd0, by first | exact hc2 | exact n_load hM _⟩)
     | (refine st_ret (by simp only [dn, reduceCtorEq, va_map] <;> rfl) ?_
        first
         | (show _ = [EV.u (U.find (FindSt.step _ M).1), .u (.mem (FindSt.step _ M).2), .b ((FindSt.step _ M).1.line == 9)]
            first
             | (rw [step_1m (top_t (n_load hM _) (by assumption))]; rfl)
             | (rw [step_1n (top_f (n_load hM _) (by assumption)), lk_d (by assumption)]; rfl)
             | (rw [step_1n (top_f (n_load hM _) (by assumption)), lk_2 (by assumption)]; rfl)
             | (rw [step_2m (top_t (n_load hM _) (by assumption))]; rfl)
             | (rw [step_2n (top_f (n_load hM _) (by assumption))]; rfl)
             | (rw [step_3y (by assumption), lk_d (by assumption)]; rfl)
             | (rw [step_3y (by assumption), lk_2 (by assumption)]; rfl)
             | (rw [step_3n (by assumption)]; rfl)
             | (rw [step_4y (by assumption), lk_d (by assumption)]; rfl)
             | (rw [step_4y (by assumption), lk_2 (by assumption)]; rfl)
             | (rw [step_4n (by assumption)]; rfl)
             | (rw [step_9]; rfl)))
     | fail "no step")
 · rintro ps hl ⟨a0, a1, a3, a4, a5, a6, a7, a8, a9, a10, a11, a12, key, line, pred, ref, cur, w, r, v0, p0, k0, s0, v1, p1, k1, s1, v2, p2, k2, s2, v3, p3, k3, s3, rfl, hn, hc1, hc2⟩ he
   simp only [List.getElem?_cons_zero, find41, find41Obj, Option.some.injEq, EV.u.injEq, U.find.injEq] at he
   subst he
   simp only [List.cons_append, List.nil_append]
   have hAN := andN hc2
   rcases hn with rfl | rfl | rfl | rfl
   all_goals
    repeat' (first
     | (first
       | (with_reducible refine st_need ?_ ?_
          focus (simp only [dn, reduceCtorEq, hAN, shr63, va_map] <;> first | omega | assumption))
       | (with_reducible refine st_and ?_ ?_)
       | (with_reducible exact st_ok)
       | (with_reducible refine st_br (fun hc => ?_) (fun hc => ?_) <;> (simp only [dn, reduceCtorEq, hAN, shr63, va_map] at hc) <;> (try (exfalso; first | contradiction | omega)))
       | (refine st_call (by rfl) (by simp only [dn, reduceCtorEq, hAN, shr63, va_map] <;> rfl) ?_ (by simp only [out_nextP, out_atP, out_load, out_cas, out_fidx4] <;> rfl) (by simp only [dn] <;> rfl) ?_
          focus (first | exact ⟨_, _, _, _, _, _, _, _, _, _, _, _, _, _, _, rfl⟩ | exact ⟨_, _, rfl⟩ | exact ⟨_, _, _, _, rfl⟩ | exact hc1 | exact hc2 | exact n_load hM _ | exact wm hc2)))
     | (refine st_rngX (fun L env' he => ?_)
        simp only [List.cons_append, List.nil_append] at he
        subst he)
     | (refine st_mk (by rfl) (by simp only [dn, reduceCtorEq, hAN, va_map] <;> rfl) ?_ (by simp only [dn] <;> rfl) ?_
        focus exact ⟨_, _, _, _, _, _, _, _, _, _, _, _, _, _, _, _, _, _, _, _, _, _, _, _, _, _, _, _, _, _, _, _, _, _, _, rfl, by omega, by first | exact hc1 | exact hc2 | exact n_load hM _ | exact wm hc2 | exact isWd0, by first | exact hc2 | exact n_load hM _⟩)
     | (refine st_ret (by simp only [dn, reduceCtorEq, va_map] <;> rfl) ?_
        first
         | (show _ = [EV.u (U.find (FindSt.step _ M).1), .u (.mem (FindSt.step _ M).2), .b ((FindSt.step _ M).1.line == 9)]
            first
             | (rw [step_1m (top_t (n_load hM _) (by assumption))]; rfl)
             | (rw [step_1n (top_f (n_load hM _) (by assumption)), lk_d (by assumption)]; rfl)
             | (rw [step_1n (top_f (n_load hM _) (by assumption)), lk_2 (by assumption)]; rfl)
             | (rw [step_2m (top_t (n_load hM _) (by assumption))]; rfl)
             | (rw [step_2n (top_f (n_load hM _) (by assumption))]; rfl)
             | (rw [step_3y (by assumption), lk_d (by assumption)]; rfl)
             | (rw [step_3y (by assumption), lk_2 (by assumption)]; rfl)
             | (rw [step_3n (by assumption)]; rfl)
             | (rw [step_4y (by assumption), lk_d (by assumption)]; rfl)
             | (rw [step_4y (by assumption), lk_2 (by assumption)]; rfl)
             | (rw [step_4n (by assumption)]; rfl)
             | (rw [step_9]; rfl)))
     | fail "no step")
 · rintro ps hl ⟨a0, a1, a3, a4, a5, a6, a7, a8, a9, a10, a11, a12, key, line, pred, ref, cur, w, r, v0, p0, k0, s0, v1, p1, k1, s1, v2, p2, k2, s2, v3, p3, k3, s3, rfl, hn, hc1, hc2⟩ he
   simp only [List.getElem?_cons_zero, find42, find42Obj, Option.some.injEq, EV.u.injEq, U.find.injEq] at he
   subst he
   simp only [List.cons_append, List.nil_append]
   have hAN := andN hc2
   rcases hn with rfl | rfl | rfl | rfl
   all_goals
    repeat' (first
     | (first
       | (with_reducible refine st_need ?_ ?_
          focus (simp only [dn, reduceCtorEq, hAN, shr63, va_map] <;> first | omega | assumption))
       | (with_reducible refine st_and ?_ ?_)
       | (with_reducible exact st_ok)
       | (with_reducible refine st_br (fun hc => ?_) (fun hc => ?_) <;> (simp only [dn, reduceCtorEq, hAN, shr63, va_map] at hc) <;> (try (exfalso; first | contradiction | omega)))
       | (refine st_call (by rfl) (by simp only [dn, reduceCtorEq, hAN, shr63, va_map] <;> rfl) ?_ (by simp only [out_nextP, out_atP, out_load, out_cas, out_fidx4] <;> rfl) (by simp only [dn] <;> rfl) ?_
          focus (first | exact ⟨_, _, _, _, _, _, _, _, _, _, _, _, _, _, _, rfl⟩ | exact ⟨_, _, rfl⟩ | exact ⟨_, _, _, _, rfl⟩ | exact hc1 | exact hc2 | exact n_load hM _ | exact wm hc2)))
     | (refine st_rngX (fun L env' he => ?_)
        simp only [List.cons_append, List.nil_append] at he
        subst he)
     | (refine st_mk (by rfl) (by simp only [dn, reduceCtorEq, hAN, va_map] <;> rfl) ?_ (by simp only [dn] <;> rfl) ?_
        focus exact ⟨_, _, _, _, _, _, _, _, _, _, _, _, _, _, _, _, _, _, _, _, _, _, _, _, _, _, _, _, _, _, _, _, _, _, _, rfl, by omega, by first | exact hc1 | exact hc2 | exact n_load hM _ | exact wm hc2 | exact isWd0, by first | exact hc2 | exact n_load hM _⟩)
     | (refine st_ret (by simp only [dn, reduceCtorEq, va_map] <;> rfl) ?_
        first
         | (show _ = [EV.u (U.find (FindSt.step _ M).1), .u (.mem (FindSt.step _ M).2), .b ((FindSt.step _ M).1.line == 9)]
            first
             | (rw [step_1m (top_t (n_load hM _) (by assumption))]; rfl)
             | (rw [step_1n (top_f (n_load hM _) (by assumption)), lk_d (by assumption)]; rfl)
             | (rw [step_1n (top_f (n_load hM _) (by assumption)), lk_2 (by assumption)]; rfl)
             | (rw [step_2m (top_t (n_load hM _) (by assumption))]; rfl)
             | (rw [step_2n (top_f (n_load hM _) (by assumption))]; rfl)
             | (rw [step_3y (by assumption), lk_d (by assumption)]; rfl)
             | (rw [step_3y (by assumption), lk_2 (by assumption)]; rfl)
             | (rw [step_3n (by assumption)]; rfl)
             | (rw [step_4y (by assumption), lk_d (by assumption)]; rfl)
             | (rw [step_4y (by assumption), lk_2 (by assumption)]; rfl)
             | (rw [step_4n (by assumption)]; rfl)
             | (rw [step_9]; rfl)))
     | fail "no step")
 · rintro ps hl ⟨a0, a1, a3, a4, a5, a6, a7, a8, a9, a10, a11, a12, key, line, pred, ref, cur, w, r, v0, p0, k0, s0, v1, p1, k1, s1, v2, p2, k2, s2, v3, p3, k3, s3, rfl, hn, hc1, hc2⟩ he
   simp only [List.getElem?_cons_zero, find43, find43Obj, Option.some.injEq, EV.u.injEq, U.find.injEq] at he
   subst he
   simp only [List.cons_append, List.nil_append]
   have hAN := andN hc2
   rcases hn with rfl | rfl | rfl | rfl
   all_goals
    repeat' (first
     | (first
       | (with_reducible refine st_need ?_ ?_
          focus (simp only [dn, reduceCtorEq, hAN, shr63, va_map] <;> first | omega | assumption))
       | (with_reducible refine st_and ?_ ?_)
       | (with_reducible exact st_ok)
       | (with_reducible refine st_br (fun hc => ?_) (fun hc => ?_) <;> (simp only [dn, reduceCtorEq, hAN, shr63, va_map] at hc) <;> (try (exfalso; first | contradiction | omega)))
       | (refine st_call (by rfl) (by simp only [dn, reduceCtorEq, hAN, shr63, va_map] <;> rfl) ?_ (by simp only [out_nextP, out_atP, out_load, out_cas, out_fidx4] <;> rfl) (by simp only [dn] <;> rfl) ?_
          focus (first | exact ⟨_, _, _, _, _, _, _, _, _, _, _, _, _, _, _, rfl⟩ | exact ⟨_, _, rfl⟩ | exact ⟨_, _, _, _, rfl⟩ | exact hc1 | exact hc2 | exact n_load hM _ | exact wm hc2)))
     | (refine st_rngX (fun L env' he => ?_)
        simp only [List.cons_append, List.nil_append] at he
        subst he)
     | (refine st_mk (by rfl) (by simp only [dn, reduceCtorEq, hAN, va_map] <;> rfl) ?_ (by simp only [dn] <;> rfl) ?_
        focus exact ⟨_, _, _, _, _, _, _, _, _, _, _, _, _, _, _, _, _, _, _, _, _, _, _, _, _, _, _, _, _, _, _, _, _, _, _, rfl, by omega, by first | exact hc1 | exact hc2 | exact n_load hM _ | exact wm hc2 | exact isWd0, by first | exact hc2 | exact n_load hM _⟩)
     | (refine st_ret (by simp only [dn, reduceCtorEq, va_map] <;> rfl) ?_
        first
         | (show _ = [EV.u (U.find (FindSt.step _ M).1), .u (.mem (FindSt.step _ M).2), .b ((FindSt.step _ M).1.line == 9)]
            first
             | (rw [step_1m (top_t (n_load hM _) (by assumption))]; rfl)
             | (rw [step_1n (top_f (n_load hM _) (by assumption)), lk_d (by assumption)]; rfl)
             | (rw [step_1n (top_f (n_load hM _) (by assumption)), lk_2 (by assumption)]; rfl)
             | (rw [step_2m (top_t (n_load hM _) (by assumption))]; rfl)
             | (rw [step_2n (top_f (n_load hM _) (by assumption))]; rfl)
             | (rw [step_3y (by assumption), lk_d (by assumption)]; rfl)
             | (rw [step_3y (by assumption), lk_2 (by assumption)]; rfl)
             | (rw [step_3n (by assumption)]; rfl)
             | (rw [step_4y (by assumption), lk_d (by assumption)]; rfl)
             | (rw [step_4y (by assumption), lk_2 (by assumption)]; rfl)
             | (rw [step_4n (by assumption)]; rfl)
             | (rw [step_9]; rfl)))
     | fail "no step")
theorem hFStep4 : (cFStepP highX).Holds objs Try.prog := runCtr_holds (X := { cxQs Try.prog with hints := hsFStep4 }) objsOk mixed hctsQs4 (callable _ Try.func32 (by kernel_rfl) (by kernel_rfl)) (by rintro ins _ ⟨F, M, rfl, _⟩; rfl) (by rw [rFStep4]; exact vFStep4 _ _)
end Go.Proofs.Ytbmbiiiacajolaa
