/- Texts of this proof. -/
import Derived.Test.YtbmbiiiacajolaaB6K
import Derived.Test.YtbmbiiiacajolaaQbTK
namespace Go.Proofs.Ytbmbiiiacajolaa
set_option linter.unusedVariables false
set_option linter.unusedSimpArgs false
set_option linter.unusedSectionVars false
open Go Go.RowKit
theorem hctsQs1 : ∀ (ci : Nat) (c : Ctr U), ctsQs[ci]? = some c → c.Holds objs Try.prog := by
 intro ci c h
 match ci, h with
 | 0, h => cases h; exact hNextP
 | 1, h => cases h; exact hAt
 | 2, h => cases h; exact hLoad
 | 3, h => cases h; exact hCAS
 | 4, h => cases h; exact hFIdx1
 | 5, h => cases h; exact hFIdx2
 | 6, h => cases h; exact hFIdx3
 | 7, h => cases h; exact hFIdx4
 | n + 8, h => cases h
set_option maxRecDepth 10000 in
set_option maxHeartbeats 16000000 in
theorem vFStep1 (P : Program) (hs : List (Nat × Nat × List Nat)) : ∀ ins, ins.length = (cFStepP (high 1)).nin → (cFStepP (high 1)).pre ins → tFStep1.sat { cxQs P with hints := hs } (ctrR (cFStepP (high 1))) ins := by
 rintro ins _ ⟨F, M, rfl, hM, hF⟩
 unfold tFStep1
 have hnm := nomore_high (F := F) (ts := [5]) (by
  intro t h5 h15 hn e
  have hF' : F.a 2 = 1 := hF
  rw [hF'] at e
  have : t = 5 ∨ t = 6 ∨ t = 7 ∨ t = 8 ∨ t = 9 ∨ t = 10 ∨ t = 11 ∨ t = 12 ∨ t = 13 ∨ t = 14 := by omega
  rcases this with rfl | rfl | rfl | rfl | rfl | rfl | rfl | rfl | rfl | rfl <;> first | exact absurd hn (by decide) | exact absurd e (by decide))
 refine st_and (st_opn (T := find10) (by rfl) ?_) (hnm)
 · rintro ps hl ⟨a0, a1, a3, a4, a5, a6, a7, a8, a9, a10, a11, a12, key, line, pred, ref, cur, w, r, v0, p0, k0, s0, rfl, hn, hc1, hc2⟩ he
   simp only [List.getElem?_cons_zero, find10, find10Obj, Option.some.injEq, EV.u.injEq, U.find.injEq] at he
   subst he
   simp only [List.cons_append, List.nil_append]
   have hAN := andN hc2
   rcases hn with rfl | rfl | rfl | rfl | rfl
   all_goals
    repeat' (first
     | (first
       | (with_reducible refine st_need ?_ ?_
          focus (simp only [dn, reduceCtorEq, hAN, shr63, va_map] <;> first | omega | assumption))
       | (with_reducible refine st_and ?_ ?_)
       | (with_reducible exact st_ok)
       | (with_reducible refine st_br (fun hc => ?_) (fun hc => ?_) <;> (simp only [dn, reduceCtorEq, hAN, shr63, va_map] at hc) <;> (try (exfalso; first | contradiction | omega)))
       | (refine st_call (by rfl) (by simp only [dn, reduceCtorEq, hAN, shr63, va_map] <;> rfl) ?_ (by simp only [out_nextP, out_atP, out_load, out_cas, out_fidx1] <;> rfl) (by simp only [dn] <;> rfl) ?_
          focus (first | exact ⟨_, _, _, _, _, _, _, _, _, _, _, _, _, _, _, rfl⟩ | exact ⟨_, _, rfl⟩ | exact ⟨_, _, _, _, rfl⟩ | exact hc1 | exact hc2 | exact n_load hM _ | exact wm hc2)))
     | (refine st_rngX (fun L env' he => ?_)
        simp only [List.cons_append, List.nil_append] at he
        subst he)
     | (refine st_mk (by rfl) (by simp only [dn, reduceCtorEq, hAN, va_map] <;> rfl) ?_ (by simp only [dn] <;> rfl) ?_
        focus exact ⟨_, _, _, _, _, _, _, _, _, _, _, _, _, _, _, _, _, _, _, _, _, _, _, rfl, by omega, by first | exact hc1 | exact hc2 | exact n_load hM _ | exact wm hc2 | exact isWd0, by first | exact hc2 | exact n_load hM _⟩)
     | (refine st_ret (by simp only [dn, reduceCtorEq, va_map] <;> rfl) ?_
        first
         | (show _ = [EV.u (U.find (FindSt.step _ M).1), .u (.mem (FindSt.step _ M).2), .b ((FindSt.step _ M).1.line == 9)]
            first
             | (rw [step_1m (top_t (n_load hM _) (by assumption))]; rfl)
             | (rw [step_1n (top_f (n_load hM _) (by assumption)), lk_d (by assumption)]; rfl)
             | (rw [step_1n (top_f (n_load hM _) (by assumption)), lk_2 (by assumption)]; rfl)
             | (rw [step_2m (top_t (n_load hM _) (by assumption))]; rfl)
             | (rw [step_2n (top_f (n_load hM _) (by assumption))]; rfl)
             | (rw [step_3y (by assumption), lk_d (by assumption)]; rfl)
             | (rw [step_3y (by assumption), lk_2 (by assumption)]; rfl)
             | (rw [step_3n (by assumption)]; rfl)
             | (rw [step_4y (by assumption), lk_d (by assumption)]; rfl)
             | (rw [step_4y (by assumption), lk_2 (by assumption)]; rfl)
             | (rw [step_4n (by assumption)]; rfl)
             | (rw [step_9]; rfl)))
     | fail "no step")
theorem hFStep1 : (cFStepP (high 1)).Holds objs Try.prog := runCtr_holds (X := { cxQs Try.prog with hints := hsFStep1 }) objsOk mixed hctsQs1 (callable _ Try.func32 (by kernel_rfl) (by kernel_rfl)) (by rintro ins _ ⟨F, M, rfl, _⟩; rfl) (by rw [rFStep1]; exact vFStep1 _ _)
theorem hctsQs2 : ∀ (ci : Nat) (c : Ctr U), ctsQs[ci]? = some c → c.Holds objs Try.prog := by
 intro ci c h
 match ci, h with
 | 0, h => cases h; exact hNextP
 | 1, h => cases h; exact hAt
 | 2, h => cases h; exact hLoad
 | 3, h => cases h; exact hCAS
 | 4, h => cases h; exact hFIdx1
 | 5, h => cases h; exact hFIdx2
 | 6, h => cases h; exact hFIdx3
 | 7, h => cases h; exact hFIdx4
 | n + 8, h => cases h
set_option maxRecDepth 10000 in
set_option maxHeartbeats 16000000 in
theorem vFStep2 (P : Program) (hs : List (Nat × Nat × List Nat)) : ∀ ins, ins.length = (cFStepP (high 2)).nin → (cFStepP (high 2)).pre ins → tFStep2.sat { cxQs P with hints := hs } (ctrR (cFStepP (high 2))) ins := by
 rintro ins _ ⟨F, M, rfl, hM, hF⟩
 unfold tFStep2
 have hnm := nomore_high (F := F) (ts := [6, 7]) (by
  intro t h5 h15 hn e
  have hF' : F.a 2 = 2 := hF
  rw [hF'] at e
  have : t = 5 ∨ t = 6 ∨ t = 7 ∨ t = 8 ∨ t = 9 ∨ t = 10 ∨ t = 11 ∨ t = 12 ∨ t = 13 ∨ t = 14 := by omega
  rcases this with rfl | rfl | rfl | rfl | rfl | rfl | rfl | rfl | rfl | rfl <;> first | exact absurd hn (by decide) | exact absurd e (by decide))
 refine st_and (st_opn (T := find20) (by rfl) ?_) (st_and (st_opn (T := find21) (by rfl) ?_) (hnm))
 · rintro ps hl ⟨a0, a1, a3, a4, a5, a6, a7, a8, a9, a10, a11, a12, key, line, pred, ref, cur, w, r, v0, p0, k0, s0, v1, p1, k1, s1, rfl, hn, hc1, hc2⟩ he
   simp only [List.getElem?_cons_zero, find20, find20Obj, Option.some.injEq, EV.u.injEq, U.find.injEq] at he
   subst he
   simp only [List.cons_append, List.nil_append]
   have hAN := andN hc2
   rcases hn with rfl | rfl | rfl | rfl | rfl
   all_goals
    repeat' (first
     | (first
       | (with_reducible refine st_need ?_ ?_
          focus (simp only [dn, reduceCtorEq, hAN, shr63, va_map] <;> first | omega | assumption))
       | (with_reducible refine st_and ?_ ?_)
       | (with_reducible exact st_ok)
       | (with_reducible refine st_br (fun hc => ?_) (fun hc => ?_) <;> (simp only [dn, reduceCtorEq, hAN, shr63, va_map] at hc) <;> (try (exfalso; first | contradiction | omega)))
       | (refine st_call (by rfl) (by simp only [dn, reduceCtorEq, hAN, shr63, va_map] <;> rfl) ?_ (by simp only [out_nextP, out_atP, out_load, out_cas, out_fidx2] <;> rfl) (by simp only [dn] <;> rfl) ?_
          focus (first | exact ⟨_, _, _, _, _, _, _, _, _, _, _, _, _, _, _, rfl⟩ | exact ⟨_, _, rfl⟩ | exact ⟨_, _, _, _, rfl⟩ | exact hc1 | exact hc2 | exact n_load hM _ | exact wm hc2)))
     | (refine st_rngX (fun L env' he => ?_)
        simp only [List.cons_append, List.nil_append] at he
        subst he)
     | (refine st_mk (by rfl) (by simp only [dn, reduceCtorEq, hAN, va_map] <;> rfl) ?_ (by simp only [dn] <;> rfl) ?_
        focus exact ⟨_, _, _, _, _, _, _, _, _, _, _, _, _, _, _, _, _, _, _, _, _, _, _, _, _, _, _, rfl, by omega, by first | exact hc1 | exact hc2 | exact n_load hM _ | exact wm hc2 | exact isWd0, by first | exact hc2 | exact n_load hM _⟩)
     | (refine st_ret (by simp only [dn, reduceCtorEq, va_map] <;> rfl) ?_
        first
         | (show _ = [EV.u (U.find (FindSt.step _ M).1), .u (.mem (FindSt.step _ M).2), .b ((FindSt.step _ M).1.line == 9)]
            first
             | (rw [step_1m (top_t (n_load hM _) (by assumption))]; rfl)
             | (rw [step_1n (top_f (n_load hM _) (by assumption)), lk_d (by assumption)]; rfl)
             | (rw [step_1n (top_f (n_load hM _) (by assumption)), lk_2 (by assumption)]; rfl)
             | (rw [step_2m (top_t (n_load hM _) (by assumption))]; rfl)
             | (rw [step_2n (top_f (n_load hM _) (by assumption))]; rfl)
             | (rw [step_3y (by assumption), lk_d (by assumption)]; rfl)
             | (rw [step_3y (by assumption), lk_2 (by assumption)]; rfl)
             | (rw [step_3n (by assumption)]; rfl)
             | (rw [step_4y (by assumption), lk_d (by assumption)]; rfl)
             | (rw [step_4y (by assumption), lk_2 (by assumption)]; rfl)
             | (rw [step_4n (by assumption)]; rfl)
             | (rw [step_9]; rfl)))
     | fail "no step")
 · rintro ps hl ⟨a0, a1, a3, a4, a5, a6, a7, a8, a9, a10, a11, a12, key, line, pred, ref, cur, w, r, v0, p0, k0, s0, v1, p1, k1, s1, rfl, hn, hc1, hc2⟩ he
   simp only [List.getElem?_cons_zero, find21, find21Obj, Option.some.injEq, EV.u.injEq, U.find.injEq] at he
   subst he
   simp only [List.cons_append, List.nil_append]
   have hAN := andN hc2
   rcases hn with rfl | rfl | rfl | rfl
   all_goals
    repeat' (first
     | (first
       | (with_reducible refine st_need ?_ ?_
          focus (simp only [dn, reduceCtorEq, hAN, shr63, va_map] <;> first | omega | assumption))
       | (with_reducible refine st_and ?_ ?_)
       | (with_reducible exact st_ok)
       | (with_reducible refine st_br (fun hc => ?_) (fun hc => ?_) <;> (simp only [dn, reduceCtorEq, hAN, shr63, va_map] at hc) <;> (try (exfalso; first | contradiction | omega)))
       | (refine st_call (by rfl) (by simp only [dn, reduceCtorEq, hAN, shr63, va_map] <;> rfl) ?_ (by simp only [out_nextP, out_atP, out_load, out_cas, out_fidx2] <;> rfl) (by simp only [dn] <;> rfl) ?_
          focus (first | exact ⟨_, _, _, _, _, _, _, _, _, _, _, _, _, _, _, rfl⟩ | exact ⟨_, _, rfl⟩ | exact ⟨_, _, _, _, rfl⟩ | exact hc1 | exact hc2 | exact n_load hM _ | exact wm hc2)))
     | (refine st_rngX (fun L env' he => ?_)
        simp only [List.cons_append, List.nil_append] at he
        subst he)
     | (refine st_mk (by rfl) (by simp only [dn, reduceCtorEq, hAN, va_map] <;> rfl) ?_ (by simp only [dn] <;> rfl) ?_
        focus exact ⟨_, _, _, _, _, _, _, _, _, _, _, _, _, _, _, _, _, _, _, _, _, _, _, _, _, _, _, rfl, by omega, by first | exact hc1 | exact hc2 | exact n_load hM _ | exact wm hc2 | exact isWd0, by first | exact hc2 | exact n_load hM _⟩)
     | (refine st_ret (by simp only [dn, reduceCtorEq, va_map] <;> rfl) ?_
        first
         | (show _ = [EV.u (U.find (FindSt.step _ M).1), .u (.mem (FindSt.step _ M).2), .b ((FindSt.step _ M).1.line == 9)]
            first
             | (rw [step_1m (top_t (n_load hM _) (by assumption))]; rfl)
             | (rw [step_1n (top_f (n_load hM _) (by assumption)), lk_d (by assumption)]; rfl)
             | (rw [step_1n (top_f (n_load hM _) (by assumption)), lk_2 (by assumption)]; rfl)
             | (rw [step_2m (top_t (n_load hM _) (by assumption))]; rfl)
             | (rw [step_2n (top_f (n_load hM _) (by assumption))]; rfl)
             | (rw [step_3y (by assumption), lk_d (by assumption)]; rfl)
             | (rw [step_3y (by assumption), lk_2 (by assumption)]; rfl)
             | (rw [step_3n (by assumption)]; rfl)
             | (rw [step_4y (by assumption), lk_d (by assumption)]; rfl)
             | (rw [step_4y (by assumption), lk_2 (by assumption)]; rfl)
             | (rw [step_4n (by assumption)]; rfl)
             | (rw [step_9]; rfl)))
     | fail "no step")
theorem hFStep2 : (cFStepP (high 2)).Holds objs Try.prog := runCtr_holds (X := { cxQs Try.prog with hints := hsFStep2 }) objsOk mixed hctsQs2 (callable _ Try.func32 (by kernel_rfl) (by kernel_rfl)) (by rintro ins _ ⟨F, M, rfl, _⟩; rfl) (by rw [rFStep2]; exact vFStep2 _ _)
theorem hctsQs3 : ∀ (ci : Nat) (c : Ctr U), ctsQs[ci]? = some c → c.Holds objs Try.prog := by
 intro ci c h
 match ci, h with
 | 0, h => cases h; exact hNextP
 | 1, h => cases h; exact hAt
 | 2, h => cases h; exact hLoad
 | 3, h => cases h; exact hCAS
 | 4, h => cases h; exact hFIdx1
 | 5, h => cases h; exact hFIdx2
 | 6, h => cases h; exact hFIdx3
 | 7, h => cases h; exact hFIdx4
 | n + 8, h => cases h
set_option maxRecDepth 10000 in
set_option maxHeartbeats 16000000 in
theorem vFStep3 (P : Program) (hs : List (Nat × Nat × List Nat)) : ∀ ins, ins.length = (cFStepP (high 3)).nin → (cFStepP (high 3)).pre ins → tFStep3.sat { cxQs P with hints := hs } (ctrR (cFStepP (high 3))) ins := by
 rintro ins _ ⟨F, M, rfl, hM, hF⟩
 unfold tFStep3
 have hnm := nomore_high (F := F) (ts := [8, 9, 10]) (by
  intro t h5 h15 hn e
  have hF' : F.a 2 = 3 := hF
  rw [hF'] at e
  have : t = 5 ∨ t = 6 ∨ t = 7 ∨ t = 8 ∨ t = 9 ∨ t = 10 ∨ t = 11 ∨ t = 12 ∨ t = 13 ∨ t = 14 := by omega
  rcases this with rfl | rfl | rfl | rfl | rfl | rfl | rfl | rfl | rfl | rfl <;> first | exact absurd hn (by decide) | exact absurd e (by decide))
 refine st_and (st_opn (T := find30) (by rfl) ?_) (st_and (st_opn (T := find31) (by rfl) ?_) (st_and (st_opn (T := find32) (by rfl) ?_) (hnm)))
 · rintro ps hl ⟨a0, a1, a3, a4, a5, a6, a7, a8, a9, a10, a11, a12, key, line, pred, ref, cur, w, r, v0, p0, k0, s0, v1, p1, k1, s1, v2, p2, k2, s2, rfl, hn, hc1, hc2⟩ he
   simp only [List.getElem?_cons_zero, find30, find30Obj, Option.some.injEq, EV.u.injEq, U.find.injEq] at he
   subst he
   simp only [List.cons_append, List.nil_append]
   have hAN := andN hc2
   rcases hn with rfl | rfl | rfl | rfl | rfl
   all_goals
    repeat' (first
     | (first
       | (with_reducible refine st_need ?_ ?_
          focus (simp only [dn, reduceCtorEq, hAN, shr63, va_map] <;> first | omega | assumption))
       | (with_reducible refine st_and ?_ ?_)
       | (with_reducible exact st_ok)
       | (with_reducible refine st_br (fun hc => ?_) (fun hc => ?_) <;> (simp only [dn, reduceCtorEq, hAN, shr63, va_map] at hc) <;> (try (exfalso; first | contradiction | omega)))
       | (refine st_call (by rfl) (by simp only [dn, reduceCtorEq, hAN, shr63, va_map] <;> rfl) ?_ (by simp only [out_nextP, out_atP, out_load, out_cas, out_fidx3] <;> rfl) (by simp only [dn] <;> rfl) ?_
          focus (first | exact ⟨_, _, _, _, _, _, _, _, _, _, _, _, _, _, _, rfl⟩ | exact ⟨_, _, rfl⟩ | exact ⟨_, _, _, _, rfl⟩ | exact hc1 | exact hc2 | exact n_load hM _ | exact wm hc2)))
     | (refine st_rngX (fun L env' he => ?_)
        simp only [List.cons_append, List.nil_append] at he
        subst he)
     | (refine st_mk (by rfl) (by simp only [dn, reduceCtorEq, hAN, va_map] <;> rfl) ?_ (by simp only [dn] <;> rfl) ?_
        focus exact ⟨_, _, _, _, _, _, _, _, _, _, _, _, _, _, _, _, _, _, _, _, _, _, _, _, _, _, _, _, _, _, _, rfl, by omega, by first | exact hc1 | exact hc2 | exact n_load hM _ | exact wm hc2 | exact isWd0, by first | exact hc2 | exact n_load hM _⟩)
     | (refine st_ret (by simp only [dn, reduceCtorEq, va_map] <;> rfl) ?_
        first
         | (show _ = [EV.u (U.find (FindSt.step _ M).1), .u (.mem (FindSt.step _ M).2), .b ((FindSt.step _ M).1.line == 9)]
            first
             | (rw [step_1m (top_t (n_load hM _) (by assumption))]; rfl)
             | (rw [step_1n (top_f (n_load hM _) (by assumption)), lk_d (by assumption)]; rfl)
             | (rw [step_1n (top_f (n_load hM _) (by assumption)), lk_2 (by assumption)]; rfl)
             | (rw [step_2m (top_t (n_load hM _) (by assumption))]; rfl)
             | (rw [step_2n (top_f (n_load hM _) (by assumption))]; rfl)
             | (rw [step_3y (by assumption), lk_d (by assumption)]; rfl)
             | (rw [step_3y (by assumption), lk_2 (by assumption)]; rfl)
             | (rw [step_3n (by assumption)]; rfl)
             | (rw [step_4y (by assumption), lk_d (by assumption)]; rfl)
             | (rw [step_4y (by assumption), lk_2 (by assumption)]; rfl)
             | (rw [step_4n (by assumption)]; rfl)
             | (rw [step_9]; rfl)))
     | fail "no step")
 · rintro ps hl ⟨a0, a1, a3, a4, a5, a6, a7, a8, a9, a10, a11, a12, key, line, pred, ref, cur, w, r, v0, p0, k0, s0, v1, p1, k1, s1, v2, p2, k2, s2, rfl, hn, hc1, hc2⟩ he
   simp only [List.getElem?_cons_zero, find31, find31Obj, Option.some.injEq, EV.u.injEq, U.find.injEq] at he
   subst he
   simp only [List.cons_append, List.nil_append]
   have hAN := andN hc2
   rcases hn with rfl | rfl | rfl | rfl
   all_goals
    repeat' (first
     | (first
       | (with_reducible refine st_need ?_ ?_
          focus (simp only [dn, reduceCtorEq, hAN, shr63, va_map] <;> first | omega | assumption))
       | (with_reducible refine st_and ?_ ?_)
       | (with_reducible exact st_ok)
       | (with_reducible refine st_br (fun hc => ?_) (fun hc => ?_) <;> (simp only [dn, reduceCtorEq, hAN, shr63, va_map] at hc) <;> (try (exfalso; first | contradiction | omega)))
       | (refine st_call (by rfl) (by simp only [dn, reduceCtorEq, hAN, shr63, va_map] <;> rfl) ?_ (by simp only [out_nextP, out_atP, out_load, out_cas, out_fidx3] <;> rfl) (by simp only [dn] <;> rfl) ?_
          focus (first | exact ⟨_, _, _, _, _, _, _, _, _, _, _, _, _, _, _, rfl⟩ | exact ⟨_, _, rfl⟩ | exact ⟨_, _, _, _, rfl⟩ | exact hc1 | exact hc2 | exact n_load hM _ | exact wm hc2)))
     | (refine st_rngX (fun L env' he => ?_)
        simp only [List.cons_append, List.nil_append] at he
        subst he)
     | (refine st_mk (by rfl) (by simp only [dn, reduceCtorEq, hAN, va_map] <;> rfl) ?_ (by simp only [dn] <;> rfl) ?_
        focus exact ⟨_, _, _, _, _, _, _, _, _, _, _, _, _, _, _, _, _, _, _, _, _, _, _, _, _, _, _, _, _, _, _, rfl, by omega, by first | exact hc1 | exact hc2 | exact n_load hM _ | exact wm hc2 | exact isWd0, by first | exact hc2 | exact n_load hM _⟩)
     | (refine st_ret (by simp only [dn, reduceCtorEq, va_map] <;> rfl) ?_
        first
         | (show _ = [EV.u (U.find (FindSt.step _ M).1), .u (.mem (FindSt.step _ M).2), .b ((FindSt.step _ M).1.line == 9)]
            first
             | (rw [step_1m (top_t (n_load hM _) (by assumption))]; rfl)
             | (rw [step_1n (top_f (n_load hM _) (by assumption)), lk_d (by assumption)]; rfl)
             | (rw [step_1n (top_f (n_load hM _) (by assumption)), lk_2 (by assumption)]; rfl)
             | (rw [step_2m (top_t (n_load hM _) (by assumption))]; rfl)
             | (rw [step_2n (top_f (n_load hM _) (by assumption))]; rfl)
             | (rw [step_3y (by assumption), lk_d (by assumption)]; rfl)
             | (rw [step_3y (by assumption), lk_2 (by assumption)]; rfl)
             | (rw [step_3n (by assumption)]; rfl)
             | (rw [step_4y (by assumption), lk_d (by assumption)]; rfl)
             | (rw [step_4y (by assumption), lk_2 (by assumption)]; rfl)
             | (rw [step_4n (by assumption)]; rfl)
             | (rw [step_9]; rfl)))
     | fail "no step")
 · rintro ps hl ⟨a0, a1, a3, a4, a5, a6, a7, a8, a9, a10, a11, a12, key, line, pred, ref, cur, w, r, v0, p0, k0, s0, v1, p1, k1, s1, v2, p2, k2, s2, rfl, hn, hc1, hc2⟩ he
   simp only [List.getElem?_cons_zero, find32, find32Obj, Option.some.injEq, EV.u.injEq, U.find.injEq] at he
   subst he
   simp only [List.cons_append, List.nil_append]
   have hAN := andN hc2
   rcases hn with rfl | rfl | rfl | rfl
   all_goals
    repeat' (first
     | (first
       | (with_reducible refine st_need ?_ ?_
          focus (simp only [dn, reduceCtorEq, hAN, shr63, va_map] <;> first | omega | assumption))
       | (with_reducible refine st_and ?_ ?_)
       | (with_reducible exact st_ok)
       | (with_reducible refine st_br (fun hc => ?_) (fun hc => ?_) <;> (simp only [dn, reduceCtorEq, hAN, shr63, va_map] at hc) <;> (try (exfalso; first | contradiction | omega)))
       | (refine st_call (by rfl) (by simp only [dn, reduceCtorEq, hAN, shr63, va_map] <;> rfl) ?_ (by simp only [out_nextP, out_atP, out_load, out_cas, out_fidx3] <;> rfl) (by simp only [dn] <;> rfl) ?_
          focus (first | exact ⟨_, _, _, _, _, _, _, _, _, _, _, _, _, _, _, rfl⟩ | exact ⟨_, _, rfl⟩ | exact ⟨_, _, _, _, rfl⟩ | exact hc1 | exact hc2 | exact n_load hM _ | exact wm hc2)))
     | (refine st_rngX (fun L env' he => ?_)
        simp only [List.cons_append, List.nil_append] at he
        subst he)
     | (refine st_mk (by rfl) (by simp only [dn, reduceCtorEq, hAN, va_map] <;> rfl) ?_ (by simp only [dn] <;> rfl) ?_
        focus exact ⟨_, _, _, _, _, _, _, _, _, _, _, _, _, _, _, _, _, _, _, _, _, _, _, _, _, _, _, _, _, _, _, rfl, by omega, by first | exact hc1 | exact hc2 | exact n_load hM _ | exact wm hc2 | exact isWd0, by first | exact hc2 | exact n_load hM _⟩)
     | (refine st_ret (by simp only [dn, reduceCtorEq, va_map] <;> rfl) ?_
        first
         | (show _ = [EV.u (U.find (FindSt.step _ M).1), .u (.mem (FindSt.step _ M).2), .b ((FindSt.step _ M).1.line == 9)]
            first
             | (rw [step_1m (top_t (n_load hM _) (by assumption))]; rfl)
             | (rw [step_1n (top_f (n_load hM _) (by assumption)), lk_d (by assumption)]; rfl)
             | (rw [step_1n (top_f (n_load hM _) (by assumption)), lk_2 (by assumption)]; rfl)
             | (rw [step_2m (top_t (n_load hM _) (by assumption))]; rfl)
             | (rw [step_2n (top_f (n_load hM _) (by assumption))]; rfl)
             | (rw [step_3y (by assumption), lk_d (by assumption)]; rfl)
             | (rw [step_3y (by assumption), lk_2 (by assumption)]; rfl)
             | (rw [step_3n (by assumption)]; rfl)
             | (rw [step_4y (by assumption), lk_d (by assumption)]; rfl)
             | (rw [step_4y (by assumption), lk_2 (by assumption)]; rfl)
             | (rw [step_4n (by assumption)]; rfl)
             | (rw [step_9]; rfl)))
     | fail "no step")
theorem hFStep3 : (cFStepP (high 3)).Holds objs Try.prog := runCtr_holds (X := { cxQs Try.prog with hints := hsFStep3 }) objsOk mixed hctsQs3 (callable _ Try.func32 (by kernel_rfl) (by kernel_rfl)) (by rintro ins _ ⟨F, M, rfl, _⟩; rfl) (by rw [rFStep3]; exact vFStep3 _ _)
end Go.Proofs.Ytbmbiiiacajolaa
