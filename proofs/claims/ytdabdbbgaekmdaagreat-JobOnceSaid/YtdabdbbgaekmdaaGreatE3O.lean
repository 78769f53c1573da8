/- Jobs, once: small contracts hold (printed by gen_db.py). -/
import Derived.Test.YtdabdbbgaekmdaaGreatE1O
import Derived.Test.YtdabdbbgaekmdaaGreatEaTO
namespace Go.Proofs.YtdabdbbgaekmdaaGreat
set_option linter.unusedVariables false
set_option linter.unusedSimpArgs false
set_option linter.unusedSectionVars false
open Go Go.RowKit
set_option maxHeartbeats 4000000 in
theorem vFine0 (P : Program) (hs : List (Nat × Nat × List Nat)) : ∀ ins, ins.length = cFine0.nin → cFine0.pre ins → tFine0.sat { cxEf P with hints := hs } (ctrR cFine0) ins := by
  rintro ins _ ⟨M, n, T, o0, o1, o2, c0, c1, c2, d, cp, a0, a1, a2, b0, b1, b2, rfl, hk⟩
  rcases o0 with _ | O | O | O | O | O
  · exact absurd rfl hk
  · unfold tFine0
    simp only [crIns, oe, List.cons_append, List.nil_append]
    repeat' (first
      | (first
        | (with_reducible refine st_need ?_ ?_
           focus (simp only [dn, reduceCtorEq, hk] <;> first | omega | assumption))
        | (with_reducible refine st_and ?_ ?_)
        | (with_reducible exact st_ok)
        | (with_reducible refine st_br (fun hc => ?_) (fun hc => ?_) <;> (simp only [dn, reduceCtorEq, hk] at hc) <;> (try (exfalso; first | contradiction | omega)))
        | (refine st_call (by rfl) (by simp only [dn, reduceCtorEq, hk] <;> rfl) ?_ (by rfl <;> rfl) (by simp only [dn] <;> rfl) ?_
           focus (first | rfl)))
      | (refine st_ret (by simp only [dn, reduceCtorEq, hk] <;> rfl) ?_
         show [EV.b _] = [EV.b (fineB 1 0 a0 a1 a2 b0 b1 b2)]
         focus (simp [fineB, cmpDen, *] <;> rfl))
      | fail "no step")
  · unfold tFine0
    simp only [crIns, oe, List.cons_append, List.nil_append]
    repeat' (first
      | (first
        | (with_reducible refine st_need ?_ ?_
           focus (simp only [dn, reduceCtorEq, hk] <;> first | omega | assumption))
        | (with_reducible refine st_and ?_ ?_)
        | (with_reducible exact st_ok)
        | (with_reducible refine st_br (fun hc => ?_) (fun hc => ?_) <;> (simp only [dn, reduceCtorEq, hk] at hc) <;> (try (exfalso; first | contradiction | omega)))
        | (refine st_call (by rfl) (by simp only [dn, reduceCtorEq, hk] <;> rfl) ?_ (by rfl <;> rfl) (by simp only [dn] <;> rfl) ?_
           focus (first | rfl)))
      | (refine st_ret (by simp only [dn, reduceCtorEq, hk] <;> rfl) ?_
         show [EV.b _] = [EV.b (fineB 2 0 a0 a1 a2 b0 b1 b2)]
         focus (simp [fineB, cmpDen, *] <;> rfl))
      | fail "no step")
  · unfold tFine0
    simp only [crIns, oe, List.cons_append, List.nil_append]
    repeat' (first
      | (first
        | (with_reducible refine st_need ?_ ?_
           focus (simp only [dn, reduceCtorEq, hk] <;> first | omega | assumption))
        | (with_reducible refine st_and ?_ ?_)
        | (with_reducible exact st_ok)
        | (with_reducible refine st_br (fun hc => ?_) (fun hc => ?_) <;> (simp only [dn, reduceCtorEq, hk] at hc) <;> (try (exfalso; first | contradiction | omega)))
        | (refine st_call (by rfl) (by simp only [dn, reduceCtorEq, hk] <;> rfl) ?_ (by rfl <;> rfl) (by simp only [dn] <;> rfl) ?_
           focus (first | rfl)))
      | (refine st_ret (by simp only [dn, reduceCtorEq, hk] <;> rfl) ?_
         show [EV.b _] = [EV.b (fineB 3 0 a0 a1 a2 b0 b1 b2)]
         focus (simp [fineB, cmpDen, *] <;> rfl))
      | fail "no step")
  · exact absurd rfl hk
  · exact absurd rfl hk
theorem hFine0 : cFine0.Holds objs Tryz.prog := runCtr_holds (X := { cxEf Tryz.prog with hints := hsFine0 }) (fuel := 20) (opens := []) (folds := []) objsOk mixed noCts (callable _ Tryz.func51 (by kernel_rfl) (by kernel_rfl)) (by rintro ins _ ⟨_, _, _, _, _, _, _, _, _, _, _, _, _, _, _, _, _, rfl, _⟩; rfl) (by rw [rFine0]; exact vFine0 _ _)
set_option maxHeartbeats 4000000 in
theorem vFine1 (P : Program) (hs : List (Nat × Nat × List Nat)) : ∀ ins, ins.length = cFine1.nin → cFine1.pre ins → tFine1.sat { cxEf P with hints := hs } (ctrR cFine1) ins := by
  rintro ins _ ⟨M, n, T, o0, o1, o2, c0, c1, c2, d, cp, a0, a1, a2, b0, b1, b2, rfl, hk⟩
  rcases o1 with _ | O | O | O | O | O
  · exact absurd rfl hk
  · unfold tFine1
    simp only [crIns, oe, List.cons_append, List.nil_append]
    repeat' (first
      | (first
        | (with_reducible refine st_need ?_ ?_
           focus (simp only [dn, reduceCtorEq, hk] <;> first | omega | assumption))
        | (with_reducible refine st_and ?_ ?_)
        | (with_reducible exact st_ok)
        | (with_reducible refine st_br (fun hc => ?_) (fun hc => ?_) <;> (simp only [dn, reduceCtorEq, hk] at hc) <;> (try (exfalso; first | contradiction | omega)))
        | (refine st_call (by rfl) (by simp only [dn, reduceCtorEq, hk] <;> rfl) ?_ (by rfl <;> rfl) (by simp only [dn] <;> rfl) ?_
           focus (first | rfl)))
      | (refine st_ret (by simp only [dn, reduceCtorEq, hk] <;> rfl) ?_
         show [EV.b _] = [EV.b (fineB 1 1 a0 a1 a2 b0 b1 b2)]
         focus (simp [fineB, cmpDen, *] <;> rfl))
      | fail "no step")
  · unfold tFine1
    simp only [crIns, oe, List.cons_append, List.nil_append]
    repeat' (first
      | (first
        | (with_reducible refine st_need ?_ ?_
           focus (simp only [dn, reduceCtorEq, hk] <;> first | omega | assumption))
        | (with_reducible refine st_and ?_ ?_)
        | (with_reducible exact st_ok)
        | (with_reducible refine st_br (fun hc => ?_) (fun hc => ?_) <;> (simp only [dn, reduceCtorEq, hk] at hc) <;> (try (exfalso; first | contradiction | omega)))
        | (refine st_call (by rfl) (by simp only [dn, reduceCtorEq, hk] <;> rfl) ?_ (by rfl <;> rfl) (by simp only [dn] <;> rfl) ?_
           focus (first | rfl)))
      | (refine st_ret (by simp only [dn, reduceCtorEq, hk] <;> rfl) ?_
         show [EV.b _] = [EV.b (fineB 2 1 a0 a1 a2 b0 b1 b2)]
         focus (simp [fineB, cmpDen, *] <;> rfl))
      | fail "no step")
  · unfold tFine1
    simp only [crIns, oe, List.cons_append, List.nil_append]
    repeat' (first
      | (first
        | (with_reducible refine st_need ?_ ?_
           focus (simp only [dn, reduceCtorEq, hk] <;> first | omega | assumption))
        | (with_reducible refine st_and ?_ ?_)
        | (with_reducible exact st_ok)
        | (with_reducible refine st_br (fun hc => ?_) (fun hc => ?_) <;> (simp only [dn, reduceCtorEq, hk] at hc) <;> (try (exfalso; first | contradiction | omega)))
        | (refine st_call (by rfl) (by simp only [dn, reduceCtorEq, hk] <;> rfl) ?_ (by rfl <;> rfl) (by simp only [dn] <;> rfl) ?_
           focus (first | rfl)))
      | (refine st_ret (by simp only [dn, reduceCtorEq, hk] <;> rfl) ?_
         show [EV.b _] = [EV.b (fineB 3 1 a0 a1 a2 b0 b1 b2)]
         focus (simp [fineB, cmpDen, *] <;> rfl))
      | fail "no step")
  · exact absurd rfl hk
  · exact absurd rfl hk
theorem hFine1 : cFine1.Holds objs Tryz.prog := runCtr_holds (X := { cxEf Tryz.prog with hints := hsFine1 }) (fuel := 20) (opens := []) (folds := []) objsOk mixed noCts (callable _ Tryz.func51 (by kernel_rfl) (by kernel_rfl)) (by rintro ins _ ⟨_, _, _, _, _, _, _, _, _, _, _, _, _, _, _, _, _, rfl, _⟩; rfl) (by rw [rFine1]; exact vFine1 _ _)
set_option maxHeartbeats 4000000 in
theorem vFine2 (P : Program) (hs : List (Nat × Nat × List Nat)) : ∀ ins, ins.length = cFine2.nin → cFine2.pre ins → tFine2.sat { cxEf P with hints := hs } (ctrR cFine2) ins := by
  rintro ins _ ⟨M, n, T, o0, o1, o2, c0, c1, c2, d, cp, a0, a1, a2, b0, b1, b2, rfl, hk⟩
  rcases o2 with _ | O | O | O | O | O
  · exact absurd rfl hk
  · unfold tFine2
    simp only [crIns, oe, List.cons_append, List.nil_append]
    repeat' (first
      | (first
        | (with_reducible refine st_need ?_ ?_
           focus (simp only [dn, reduceCtorEq, hk] <;> first | omega | assumption))
        | (with_reducible refine st_and ?_ ?_)
        | (with_reducible exact st_ok)
        | (with_reducible refine st_br (fun hc => ?_) (fun hc => ?_) <;> (simp only [dn, reduceCtorEq, hk] at hc) <;> (try (exfalso; first | contradiction | omega)))
        | (refine st_call (by rfl) (by simp only [dn, reduceCtorEq, hk] <;> rfl) ?_ (by rfl <;> rfl) (by simp only [dn] <;> rfl) ?_
           focus (first | rfl)))
      | (refine st_ret (by simp only [dn, reduceCtorEq, hk] <;> rfl) ?_
         show [EV.b _] = [EV.b (fineB 1 2 a0 a1 a2 b0 b1 b2)]
         focus (simp [fineB, cmpDen, *] <;> rfl))
      | fail "no step")
  · unfold tFine2
    simp only [crIns, oe, List.cons_append, List.nil_append]
    repeat' (first
      | (first
        | (with_reducible refine st_need ?_ ?_
           focus (simp only [dn, reduceCtorEq, hk] <;> first | omega | assumption))
        | (with_reducible refine st_and ?_ ?_)
        | (with_reducible exact st_ok)
        | (with_reducible refine st_br (fun hc => ?_) (fun hc => ?_) <;> (simp only [dn, reduceCtorEq, hk] at hc) <;> (try (exfalso; first | contradiction | omega)))
        | (refine st_call (by rfl) (by simp only [dn, reduceCtorEq, hk] <;> rfl) ?_ (by rfl <;> rfl) (by simp only [dn] <;> rfl) ?_
           focus (first | rfl)))
      | (refine st_ret (by simp only [dn, reduceCtorEq, hk] <;> rfl) ?_
         show [EV.b _] = [EV.b (fineB 2 2 a0 a1 a2 b0 b1 b2)]
         focus (simp [fineB, cmpDen, *] <;> rfl))
      | fail "no step")
  · unfold tFine2
    simp only [crIns, oe, List.cons_append, List.nil_append]
    repeat' (first
      | (first
        | (with_reducible refine st_need ?_ ?_
           focus (simp only [dn, reduceCtorEq, hk] <;> first | omega | assumption))
        | (with_reducible refine st_and ?_ ?_)
        | (with_reducible exact st_ok)
        | (with_reducible refine st_br (fun hc => ?_) (fun hc => ?_) <;> (simp only [dn, reduceCtorEq, hk] at hc) <;> (try (exfalso; first | contradiction | omega)))
        | (refine st_call (by rfl) (by simp only [dn, reduceCtorEq, hk] <;> rfl) ?_ (by rfl <;> rfl) (by simp only [dn] <;> rfl) ?_
           focus (first | rfl)))
      | (refine st_ret (by simp only [dn, reduceCtorEq, hk] <;> rfl) ?_
         show [EV.b _] = [EV.b (fineB 3 2 a0 a1 a2 b0 b1 b2)]
         focus (simp [fineB, cmpDen, *] <;> rfl))
      | fail "no step")
  · exact absurd rfl hk
  · exact absurd rfl hk
theorem hFine2 : cFine2.Holds objs Tryz.prog := runCtr_holds (X := { cxEf Tryz.prog with hints := hsFine2 }) (fuel := 20) (opens := []) (folds := []) objsOk mixed noCts (callable _ Tryz.func51 (by kernel_rfl) (by kernel_rfl)) (by rintro ins _ ⟨_, _, _, _, _, _, _, _, _, _, _, _, _, _, _, _, _, rfl, _⟩; rfl) (by rw [rFine2]; exact vFine2 _ _)
theorem hctsEp : ∀ (ci : Nat) (c : Ctr U), ctsEp[ci]? = some c → c.Holds objs Tryz.prog := by
  intro ci c h
  match ci, h with
  | 0, h => cases h; exact hTkStep
  | 1, h => cases h; exact hGvStep
  | 2, h => cases h; exact hTuStep
  | 3, h => cases h; exact hTkIdx
  | 4, h => cases h; exact hGvErr
  | 5, h => cases h; exact hTuErr
  | n + 6, h => cases h
theorem hctsEb : ∀ (ci : Nat) (c : Ctr U), ctsEb[ci]? = some c → c.Holds objs Tryz.prog := by
  intro ci c h
  match ci, h with
  | 0, h => cases h; exact hPick
  | 1, h => cases h; exact hNTk
  | 2, h => cases h; exact hNGv
  | 3, h => cases h; exact hNTu
  | n + 4, h => cases h
set_option maxHeartbeats 4000000 in
theorem vStp0 (P : Program) (hs : List (Nat × Nat × List Nat)) : ∀ ins, ins.length = cStp0.nin → cStp0.pre ins → tStp0.sat { cxEp P with hints := hs } (ctrR cStp0) ins := by
  rintro ins _ ⟨M, n, T, o0, o1, o2, c0, c1, c2, d, cp, rfl, hk, hM, hok⟩
  rcases o0 with _ | O | O | O | O | O
  · exact absurd rfl hk
  rotate_right
  · exact absurd rfl hk
  rotate_right
  · exact absurd rfl hk
  all_goals
    unfold tStp0
    simp only [crIns, oe, List.cons_append, List.nil_append]
    repeat' (first
      | (first
        | (with_reducible refine st_need ?_ ?_
           focus (simp only [dn, reduceCtorEq, hk] <;> first | omega | assumption))
        | (with_reducible refine st_and ?_ ?_)
        | (with_reducible exact st_ok)
        | (with_reducible refine st_br (fun hc => ?_) (fun hc => ?_) <;> (simp only [dn, reduceCtorEq, hk] at hc) <;> (try (exfalso; first | contradiction | omega)))
        | (refine st_call (by rfl) (by simp only [dn, reduceCtorEq, hk] <;> rfl) ?_ (by simp only [out_tks, out_gvs, out_tus, out_tki, out_gve, out_tue] <;> rfl) (by simp only [dn] <;> rfl) ?_
           focus (first | exact ⟨_, _, rfl, hM⟩ | exact ⟨_, _, rfl, hok, hM⟩ | exact ⟨_, _, rfl, hM, hok⟩ | exact ⟨_, rfl⟩)))
      | (refine st_ret (by simp only [dn, reduceCtorEq, hk] <;> rfl) ?_
         rfl)
      | fail "no step")
theorem hStp0 : cStp0.Holds objs Tryz.prog := runCtr_holds (X := { cxEp Tryz.prog with hints := hsStp0 }) (fuel := 20) (opens := []) (folds := []) objsOk mixed hctsEp (callable _ Tryz.func50 (by kernel_rfl) (by kernel_rfl)) (by rintro ins _ ⟨_, _, _, _, _, _, _, _, _, _, _, rfl, _⟩; rfl) (by rw [rStp0]; exact vStp0 _ _)
set_option maxHeartbeats 4000000 in
theorem vStp1 (P : Program) (hs : List (Nat × Nat × List Nat)) : ∀ ins, ins.length = cStp1.nin → cStp1.pre ins → tStp1.sat { cxEp P with hints := hs } (ctrR cStp1) ins := by
  rintro ins _ ⟨M, n, T, o0, o1, o2, c0, c1, c2, d, cp, rfl, hk, hM, hok⟩
  rcases o1 with _ | O | O | O | O | O
  · exact absurd rfl hk
  rotate_right
  · exact absurd rfl hk
  rotate_right
  · exact absurd rfl hk
  all_goals
    unfold tStp1
    simp only [crIns, oe, List.cons_append, List.nil_append]
    repeat' (first
      | (first
        | (with_reducible refine st_need ?_ ?_
           focus (simp only [dn, reduceCtorEq, hk] <;> first | omega | assumption))
        | (with_reducible refine st_and ?_ ?_)
        | (with_reducible exact st_ok)
        | (with_reducible refine st_br (fun hc => ?_) (fun hc => ?_) <;> (simp only [dn, reduceCtorEq, hk] at hc) <;> (try (exfalso; first | contradiction | omega)))
        | (refine st_call (by rfl) (by simp only [dn, reduceCtorEq, hk] <;> rfl) ?_ (by simp only [out_tks, out_gvs, out_tus, out_tki, out_gve, out_tue] <;> rfl) (by simp only [dn] <;> rfl) ?_
           focus (first | exact ⟨_, _, rfl, hM⟩ | exact ⟨_, _, rfl, hok, hM⟩ | exact ⟨_, _, rfl, hM, hok⟩ | exact ⟨_, rfl⟩)))
      | (refine st_ret (by simp only [dn, reduceCtorEq, hk] <;> rfl) ?_
         rfl)
      | fail "no step")
theorem hStp1 : cStp1.Holds objs Tryz.prog := runCtr_holds (X := { cxEp Tryz.prog with hints := hsStp1 }) (fuel := 20) (opens := []) (folds := []) objsOk mixed hctsEp (callable _ Tryz.func50 (by kernel_rfl) (by kernel_rfl)) (by rintro ins _ ⟨_, _, _, _, _, _, _, _, _, _, _, rfl, _⟩; rfl) (by rw [rStp1]; exact vStp1 _ _)
set_option maxHeartbeats 4000000 in
theorem vStp2 (P : Program) (hs : List (Nat × Nat × List Nat)) : ∀ ins, ins.length = cStp2.nin → cStp2.pre ins → tStp2.sat { cxEp P with hints := hs } (ctrR cStp2) ins := by
  rintro ins _ ⟨M, n, T, o0, o1, o2, c0, c1, c2, d, cp, rfl, hk, hM, hok⟩
  rcases o2 with _ | O | O | O | O | O
  · exact absurd rfl hk
  rotate_right
  · exact absurd rfl hk
  rotate_right
  · exact absurd rfl hk
  all_goals
    unfold tStp2
    simp only [crIns, oe, List.cons_append, List.nil_append]
    repeat' (first
      | (first
        | (with_reducible refine st_need ?_ ?_
           focus (simp only [dn, reduceCtorEq, hk] <;> first | omega | assumption))
        | (with_reducible refine st_and ?_ ?_)
        | (with_reducible exact st_ok)
        | (with_reducible refine st_br (fun hc => ?_) (fun hc => ?_) <;> (simp only [dn, reduceCtorEq, hk] at hc) <;> (try (exfalso; first | contradiction | omega)))
        | (refine st_call (by rfl) (by simp only [dn, reduceCtorEq, hk] <;> rfl) ?_ (by simp only [out_tks, out_gvs, out_tus, out_tki, out_gve, out_tue] <;> rfl) (by simp only [dn] <;> rfl) ?_
           focus (first | exact ⟨_, _, rfl, hM⟩ | exact ⟨_, _, rfl, hok, hM⟩ | exact ⟨_, _, rfl, hM, hok⟩ | exact ⟨_, rfl⟩)))
      | (refine st_ret (by simp only [dn, reduceCtorEq, hk] <;> rfl) ?_
         rfl)
      | fail "no step")
theorem hStp2 : cStp2.Holds objs Tryz.prog := runCtr_holds (X := { cxEp Tryz.prog with hints := hsStp2 }) (fuel := 20) (opens := []) (folds := []) objsOk mixed hctsEp (callable _ Tryz.func50 (by kernel_rfl) (by kernel_rfl)) (by rintro ins _ ⟨_, _, _, _, _, _, _, _, _, _, _, rfl, _⟩; rfl) (by rw [rStp2]; exact vStp2 _ _)
set_option maxHeartbeats 4000000 in
theorem vBeg0 (P : Program) (hs : List (Nat × Nat × List Nat)) : ∀ ins, ins.length = cBeg0.nin → cBeg0.pre ins → tBeg0.sat { cxEb P with hints := hs } (ctrR cBeg0) ins := by
  rintro ins _ ⟨M, n, T, o1, o2, c0, c1, c2, d, cp, m, rfl, hn, hn5, hm, hm2⟩
  have hq : IntKind.i64.wrap (m.tdiv 8) = m.tdiv 8 := by
    rw [Int.tdiv_eq_ediv_of_nonneg hm]
    exact wrap_small (by omega) (by omega)
  unfold tBeg0
  simp only [crIns, oe, List.cons_append, List.nil_append]
  repeat' (first
    | (first
      | (with_reducible refine st_need ?_ ?_
         focus (simp only [dn, reduceCtorEq, hq] <;> first | omega | assumption))
      | (with_reducible refine st_and ?_ ?_)
      | (with_reducible exact st_ok)
      | (with_reducible refine st_br (fun hc => ?_) (fun hc => ?_) <;> (simp only [dn, reduceCtorEq, hq] at hc) <;> (try (exfalso; first | contradiction | omega)))
      | (refine st_call (by rfl) (by simp only [dn, reduceCtorEq, hq] <;> rfl) ?_ (by simp only [out_pick, hq, out_NTk, out_NGv, out_NTu] <;> rfl) (by simp only [dn] <;> rfl) ?_
         focus (first | exact ⟨_, _, rfl, by omega, by omega⟩ | exact ⟨_, _, _, _, _, rfl, by omega, by omega⟩ | exact ⟨_, _, _, _, _, _, rfl, by omega, by omega⟩ | exact ⟨_, _, _, _, _, _, _, _, _, rfl, by omega, by omega⟩ | exact ⟨_, _, _, _, _, _, _, _, _, rfl, ⟨by omega, by omega⟩, by omega, by omega⟩)))
    | (refine st_ret (by simp only [dn, reduceCtorEq, hq] <;> rfl) ?_
       show _ = [EV.u (oA (begO n 0 m)), .u (oB (begO n 0 m)), .u (oC (begO n 0 m))]
       focus (simp only [begO, *, true_or, or_true, if_true, if_false, reduceIte, Int.reduceEq, or_self, false_or, or_false]; rfl))
    | fail "no step")
theorem hBeg0 : cBeg0.Holds objs Tryz.prog := runCtr_holds (X := { cxEb Tryz.prog with hints := hsBeg0 }) (fuel := 20) (opens := []) (folds := []) objsOk mixed hctsEb (callable _ Tryz.func9 (by kernel_rfl) (by kernel_rfl)) (by rintro ins _ ⟨_, _, _, _, _, _, _, _, _, _, _, rfl, _⟩; rfl) (by rw [rBeg0]; exact vBeg0 _ _)
set_option maxHeartbeats 4000000 in
theorem vBeg1 (P : Program) (hs : List (Nat × Nat × List Nat)) : ∀ ins, ins.length = cBeg1.nin → cBeg1.pre ins → tBeg1.sat { cxEb P with hints := hs } (ctrR cBeg1) ins := by
  rintro ins _ ⟨M, n, T, o0, o2, c0, c1, c2, d, cp, m, rfl, hn, hn5, hm, hm2⟩
  have hq : IntKind.i64.wrap (m.tdiv 8) = m.tdiv 8 := by
    rw [Int.tdiv_eq_ediv_of_nonneg hm]
    exact wrap_small (by omega) (by omega)
  unfold tBeg1
  simp only [crIns, oe, List.cons_append, List.nil_append]
  repeat' (first
    | (first
      | (with_reducible refine st_need ?_ ?_
         focus (simp only [dn, reduceCtorEq, hq] <;> first | omega | assumption))
      | (with_reducible refine st_and ?_ ?_)
      | (with_reducible exact st_ok)
      | (with_reducible refine st_br (fun hc => ?_) (fun hc => ?_) <;> (simp only [dn, reduceCtorEq, hq] at hc) <;> (try (exfalso; first | contradiction | omega)))
      | (refine st_call (by rfl) (by simp only [dn, reduceCtorEq, hq] <;> rfl) ?_ (by simp only [out_pick, hq, out_NTk, out_NGv, out_NTu] <;> rfl) (by simp only [dn] <;> rfl) ?_
         focus (first | exact ⟨_, _, rfl, by omega, by omega⟩ | exact ⟨_, _, _, _, _, rfl, by omega, by omega⟩ | exact ⟨_, _, _, _, _, _, rfl, by omega, by omega⟩ | exact ⟨_, _, _, _, _, _, _, _, _, rfl, by omega, by omega⟩ | exact ⟨_, _, _, _, _, _, _, _, _, rfl, ⟨by omega, by omega⟩, by omega, by omega⟩)))
    | (refine st_ret (by simp only [dn, reduceCtorEq, hq] <;> rfl) ?_
       show _ = [EV.u (oA (begO n 1 m)), .u (oB (begO n 1 m)), .u (oC (begO n 1 m))]
       focus (simp only [begO, *, true_or, or_true, if_true, if_false, reduceIte, Int.reduceEq, or_self, false_or, or_false]; rfl))
    | fail "no step")
theorem hBeg1 : cBeg1.Holds objs Tryz.prog := runCtr_holds (X := { cxEb Tryz.prog with hints := hsBeg1 }) (fuel := 20) (opens := []) (folds := []) objsOk mixed hctsEb (callable _ Tryz.func9 (by kernel_rfl) (by kernel_rfl)) (by rintro ins _ ⟨_, _, _, _, _, _, _, _, _, _, _, rfl, _⟩; rfl) (by rw [rBeg1]; exact vBeg1 _ _)
set_option maxHeartbeats 4000000 in
theorem vBeg2 (P : Program) (hs : List (Nat × Nat × List Nat)) : ∀ ins, ins.length = cBeg2.nin → cBeg2.pre ins → tBeg2.sat { cxEb P with hints := hs } (ctrR cBeg2) ins := by
  rintro ins _ ⟨M, n, T, o0, o1, c0, c1, c2, d, cp, m, rfl, hn, hn5, hm, hm2⟩
  have hq : IntKind.i64.wrap (m.tdiv 8) = m.tdiv 8 := by
    rw [Int.tdiv_eq_ediv_of_nonneg hm]
    exact wrap_small (by omega) (by omega)
  unfold tBeg2
  simp only [crIns, oe, List.cons_append, List.nil_append]
  repeat' (first
    | (first
      | (with_reducible refine st_need ?_ ?_
         focus (simp only [dn, reduceCtorEq, hq] <;> first | omega | assumption))
      | (with_reducible refine st_and ?_ ?_)
      | (with_reducible exact st_ok)
      | (with_reducible refine st_br (fun hc => ?_) (fun hc => ?_) <;> (simp only [dn, reduceCtorEq, hq] at hc) <;> (try (exfalso; first | contradiction | omega)))
      | (refine st_call (by rfl) (by simp only [dn, reduceCtorEq, hq] <;> rfl) ?_ (by simp only [out_pick, hq, out_NTk, out_NGv, out_NTu] <;> rfl) (by simp only [dn] <;> rfl) ?_
         focus (first | exact ⟨_, _, rfl, by omega, by omega⟩ | exact ⟨_, _, _, _, _, rfl, by omega, by omega⟩ | exact ⟨_, _, _, _, _, _, rfl, by omega, by omega⟩ | exact ⟨_, _, _, _, _, _, _, _, _, rfl, by omega, by omega⟩ | exact ⟨_, _, _, _, _, _, _, _, _, rfl, ⟨by omega, by omega⟩, by omega, by omega⟩)))
    | (refine st_ret (by simp only [dn, reduceCtorEq, hq] <;> rfl) ?_
       show _ = [EV.u (oA (begO n 2 m)), .u (oB (begO n 2 m)), .u (oC (begO n 2 m))]
       focus (simp only [begO, *, true_or, or_true, if_true, if_false, reduceIte, Int.reduceEq, or_self, false_or, or_false]; rfl))
    | fail "no step")
theorem hBeg2 : cBeg2.Holds objs Tryz.prog := runCtr_holds (X := { cxEb Tryz.prog with hints := hsBeg2 }) (fuel := 20) (opens := []) (folds := []) objsOk mixed hctsEb (callable _ Tryz.func9 (by kernel_rfl) (by kernel_rfl)) (by rintro ins _ ⟨_, _, _, _, _, _, _, _, _, _, _, rfl, _⟩; rfl) (by rw [rBeg2]; exact vBeg2 _ _)
theorem hctsEc : ∀ (ci : Nat) (c : Ctr U), ([cWords, cRead] : List (Ctr U))[ci]? = some c → c.Holds objs Tryz.prog := by
  intro ci c h
  match ci, h with
  | 0, h => cases h; exact hWords
  | 1, h => cases h; exact hRead
  | n + 2, h => cases h
theorem chain_step {M : MemSt} {l s i : Int} {n k : Nat} (h : 0 ≤ i) (hk : k < n) : chainL M l s (n - k) i = i :: chainL M l s (n - (k + 1)) (idxW s (M.at0 (IntKind.i64.wrap (l + i)))) := by
  rw [show n - k = (n - (k + 1)) + 1 by omega, chainL, if_neg (by omega)]
theorem chain_end {M : MemSt} {l s i : Int} {m : Nat} (h : i < 0 ∨ m = 0) : chainL M l s m i = [] := by
  rcases h with h | h
  · cases m with
    | zero => rfl
    | succ m => rw [chainL, if_pos h]
  · subst h; rfl
theorem chain_next {M : MemSt} {a b n i k c : Int} {xs r : List Int} {x7 x8 : EV U} {j : Int} (hM : M.fine) (hn : n ≤ 4096) (h1 : 0 ≤ k) (h3 : c = xs.length) (h4 : k ≤ c) (h5 : xs.take k.toNat ++ chainL M b n (n.toNat - k.toNat) i = chainS M a b n) (hi : 0 ≤ i) (hk : k < n) (hj : j = idxW n (M.at0 (IntKind.i64.wrap (b + i)))) :
    sChainInv [.u (.mem M), .i a, .i b, .i n, .u (.mem M), .l M.W, .i M.W.length, x7, x8, .i j, .i (IntKind.i64.wrap (k + 1)), .l (xs.take k.toNat ++ i :: r), .i ((k.toNat + 1 + r.length : Nat) : Int)] := by
  rw [wrap_small (n := k + 1) (by omega) (by omega)]
  refine ⟨M, a, b, n, _, _, j, k + 1, _, _, rfl, hM, hn, by omega, by omega, by rw [len_app (by omega)], by omega, ?_, ?_⟩
  · rw [chain_step hi (by omega)] at h5
    rw [toNat_succ h1, take_app rfl (by omega), ← h5, hj, List.append_assoc]; rfl
  · rw [hj]; have := (idxW_lo' n (M.at0 (IntKind.i64.wrap (b + i)))).2; omega
set_option maxHeartbeats 2000000 in
theorem vSChain (P : Program) (hs : List (Nat × Nat × List Nat)) : ∀ ins, ins.length = cSChain.nin → cSChain.pre ins → tSChain.sat { cxEc P with hints := hs } (ctrR cSChain) ins := by
  have hb : ∀ env, sChainInv env → tSChainL0.sat { cxEc P with hints := hs } (ctrR cSChain) env := by
    rintro env ⟨M, a, b, n, x7, x8, i, k, xs, c, rfl, hM, hn, h1, h2, h3, h4, h5, h6⟩
    have hl := hM.1
    have e0 : ∀ x : Int, M.W.getD x.toNat 0 = M.W[x.toNat]?.getD 0 := fun _ => rfl
    unfold tSChainL0
    repeat' (first
      | (first
        | (with_reducible refine st_need ?_ ?_
           focus (simp only [dn, reduceCtorEq, h3] <;> first | omega | assumption))
        | (with_reducible refine st_and ?_ ?_)
        | (with_reducible exact st_ok)
        | (with_reducible refine st_br (fun hc => ?_) (fun hc => ?_) <;> (simp only [dn, reduceCtorEq, h3] at hc) <;> (try (exfalso; first | contradiction | omega)))
        | (refine st_call (by rfl) (by simp only [dn, reduceCtorEq, h3] <;> rfl) ?_ (by simp only [out_read] <;> rfl) (by simp only [dn] <;> rfl) ?_
           focus (first | exact ⟨_, _, _, _, rfl, isW0⟩ | exact ⟨_, _, _, _, rfl, fine_get hM _⟩))
        | (with_reducible refine st_ret (by simp only [dn, reduceCtorEq, h3] <;> rfl) ?_
           (first | rfl | exact ⟨_, rfl⟩)))
      | (refine st_app (by rfl) (by simp only [dn, reduceCtorEq, h3] <;> rfl) (by simp only [dn, reduceCtorEq, h3] <;> rfl) (fun rr env' he => ?_)
         simp only [List.cons_append, List.nil_append] at he
         subst he)
      | (refine st_rng (fun LL env' he => ?_)
         simp only [List.cons_append, List.nil_append] at he
         subst he)
      | (refine st_lst (by simp only [List.map_cons, List.map_nil, List.cons_append, List.nil_append] <;> rfl) ?_)
      | (refine st_back (by rfl) (by simp only [dn, reduceCtorEq, h3] <;> rfl) (by simp only [dn] <;> rfl) (by rfl) ?_ ?_
         focus (refine chain_next hM hn h1 h3 h4 h5 (by omega) (by omega) ?_
                first
                  | (rw [at0_out (by omega)]; done)
                  | (rw [at0_in (by omega) (by omega)]; done))
         focus (rw [wrap_small (n := k + 1) (by omega) (by omega)]; show (n - (k + 1)).toNat < (n - k).toNat; omega))
      | (refine st_ret (by simp only [dn, reduceCtorEq, h3] <;> rfl) ?_
         have hce : chainL M b n (n.toNat - k.toNat) i = [] := chain_end (by omega)
         rw [hce, List.append_nil] at h5
         obtain ⟨rr, hr⟩ := split_at h5
         refine Exists.intro rr ?_
         have hlen : (chainS M a b n).length = k.toNat := by rw [← h5, List.length_take]; omega
         show _ = [EV.u (U.mem M), EV.l (chainS M a b n ++ rr), EV.i ((chainS M a b n).length : Int), EV.i (((chainS M a b n).length + rr.length : Nat) : Int)]
         have hx : xs.length = k.toNat + rr.length := by rw [hr, List.length_append, hlen]
         rw [← hr, hlen, ← hx, show ((k.toNat : Nat) : Int) = k by omega])
      | fail "no step")
  rintro ins _ ⟨M, a, b, n, rfl, hM, hn⟩
  have hl := hM.1
  have e0 : ∀ x : Int, M.W.getD x.toNat 0 = M.W[x.toNat]?.getD 0 := fun _ => rfl
  unfold tSChain
  repeat' (first
    | (first
      | (with_reducible refine st_need ?_ ?_
         focus (simp only [dn, reduceCtorEq, hn] <;> first | omega | assumption))
      | (with_reducible refine st_and ?_ ?_)
      | (with_reducible exact st_ok)
      | (with_reducible refine st_br (fun hc => ?_) (fun hc => ?_) <;> (simp only [dn, reduceCtorEq, hn] at hc) <;> (try (exfalso; first | contradiction | omega)))
      | (refine st_call (by rfl) (by simp only [dn, reduceCtorEq, hn] <;> rfl) ?_ (by simp only [out_read, out_words] <;> rfl) (by simp only [dn] <;> rfl) ?_
         focus (first | exact ⟨_, rfl⟩ | exact ⟨_, _, _, _, rfl, isW0⟩ | exact ⟨_, _, _, _, rfl, fine_get hM _⟩))
      | (with_reducible refine st_ret (by simp only [dn, reduceCtorEq, hn] <;> rfl) ?_
         (first | rfl | exact ⟨_, rfl⟩)))
    | (refine st_app (by rfl) (by simp only [dn, reduceCtorEq, hn] <;> rfl) (by simp only [dn, reduceCtorEq, hn] <;> rfl) (fun rr env' he => ?_)
       simp only [List.cons_append, List.nil_append] at he
       subst he)
    | (refine st_rng (fun LL env' he => ?_)
       simp only [List.cons_append, List.nil_append] at he
       subst he)
    | (refine st_lst (by simp only [List.map_cons, List.map_nil, List.cons_append, List.nil_append] <;> rfl) ?_)
    | (refine st_loop (by rfl) (by simp only [dn, reduceCtorEq, hn] <;> rfl) (by simp only [List.take_succ_cons, List.take_zero] <;> rfl) ?_ (fun env' h => hb env' h)
       refine ⟨M, a, b, n, _, _, _, 0, _, _, rfl, hM, hn, by omega, by omega, by rfl, by omega, ?_, ?_⟩
       focus (rw [chainS]
              first
                | (rw [at0_out (by omega)]; rfl)
                | (rw [at0_in (by omega) (by omega)]; rfl))
       focus (exact Int.le_trans (idxW_lo' _ _).2 (by decide)))
    | fail "no step")
theorem hSChain : cSChain.Holds objs Tryz.prog := runCtr_holdsm (X := { cxEc Tryz.prog with hints := hsSChain }) (fuel := 20) (opens := []) (folds := []) objsOk mixed hctsEc (callable _ Tryz.func11 (by kernel_rfl) (by kernel_rfl)) (by rintro ins outs _ ⟨_, _, _, _, rfl, _⟩ ⟨c, rfl⟩; rfl) (by rw [rSChain]; exact vSChain _ _)
set_option maxHeartbeats 4000000 in
theorem bAmong (P : Program) (hs : List (Nat × Nat × List Nat)) : ∀ env, amInv env → tAmongL0.sat { cxEm P with hints := hs } (ctrR cAmong) env := by
  rintro env ⟨xs, a, c, x, k, rfl, h1, h2, h3, h4, h5, h6⟩
  by_cases hk : k < a
  · have hga := get_at h4 (show k < xs.length by omega)
    have hwk : IntKind.i64.wrap (k + 1) = k + 1 := wrap_small (by omega) (by omega)
    by_cases hx : xs[k.toNat]?.getD 0 = x
    · have hm : x ∈ xs.take a.toNat := by
        have : x ∈ xs.take (k + 1).toNat := by rw [hga.2, hx]; simp
        exact List.mem_of_mem_take (i := (k + 1).toNat) (by rw [List.take_take, Nat.min_eq_left (by omega)]; exact this)
      unfold tAmongL0
      repeat' (first
        | (first
          | (with_reducible refine st_need ?_ ?_
             focus (simp only [dn, reduceCtorEq, hx] <;> first | omega | assumption))
          | (with_reducible refine st_and ?_ ?_)
          | (with_reducible exact st_ok)
          | (with_reducible refine st_br (fun hc => ?_) (fun hc => ?_) <;> (simp only [dn, reduceCtorEq, hx] at hc) <;> (try (exfalso; first | contradiction | omega)))
          | (refine st_call (by rfl) (by simp only [dn, reduceCtorEq, hx] <;> rfl) ?_ (by rfl <;> rfl) (by simp only [dn] <;> rfl) ?_
             focus (first | rfl)))
        | (refine st_ret (by simp only [dn, reduceCtorEq, hx] <;> rfl) ?_
           focus (show [EV.b _] = [EV.b _]; rw [decide_eq_true hm]))
        | fail "no step")
    · unfold tAmongL0
      repeat' (first
        | (first
          | (with_reducible refine st_need ?_ ?_
             focus (simp only [dn, reduceCtorEq, hx] <;> first | omega | assumption))
          | (with_reducible refine st_and ?_ ?_)
          | (with_reducible exact st_ok)
          | (with_reducible refine st_br (fun hc => ?_) (fun hc => ?_) <;> (simp only [dn, reduceCtorEq, hx] at hc) <;> (try (exfalso; first | contradiction | omega)))
          | (refine st_call (by rfl) (by simp only [dn, reduceCtorEq, hx] <;> rfl) ?_ (by rfl <;> rfl) (by simp only [dn] <;> rfl) ?_
             focus (first | rfl)))
        | (refine st_back (by rfl) (by simp only [dn, reduceCtorEq, hwk] <;> rfl) (by simp only [dn] <;> rfl) (by rfl) ?_ ?_
           focus exact ⟨xs, a, c, x, k + 1, rfl, h1, h2, h3, by omega, by omega, by rw [hga.2, List.mem_append, List.mem_singleton]; rintro (h | h); exact h6 h; exact hx h.symm⟩
           focus (show (a - (k + 1)).toNat < (a - k).toNat; omega))
        | fail "no step")
  · obtain rfl : k = a := by omega
    unfold tAmongL0
    repeat' (first
      | (first
        | (with_reducible refine st_need ?_ ?_
           focus (simp only [dn, reduceCtorEq, h1] <;> first | omega | assumption))
        | (with_reducible refine st_and ?_ ?_)
        | (with_reducible exact st_ok)
        | (with_reducible refine st_br (fun hc => ?_) (fun hc => ?_) <;> (simp only [dn, reduceCtorEq, h1] at hc) <;> (try (exfalso; first | contradiction | omega)))
        | (refine st_call (by rfl) (by simp only [dn, reduceCtorEq, h1] <;> rfl) ?_ (by rfl <;> rfl) (by simp only [dn] <;> rfl) ?_
           focus (first | rfl)))
      | (refine st_ret (by simp only [dn, reduceCtorEq, h1] <;> rfl) ?_
         focus (show [EV.b _] = [EV.b _]; rw [decide_eq_false h6]))
      | fail "no step")
set_option maxHeartbeats 4000000 in
theorem vAmong (P : Program) (hs : List (Nat × Nat × List Nat)) : ∀ ins, ins.length = cAmong.nin → cAmong.pre ins → tAmong.sat { cxEm P with hints := hs } (ctrR cAmong) ins := by
  rintro ins _ ⟨xs, a, c, x, rfl, h1, h2, h3⟩
  unfold tAmong
  refine st_loop (by rfl) (by simp only [dn, reduceCtorEq, h1] <;> rfl) (by simp only [dn] <;> rfl) ?_ (fun env' h => bAmong P hs env' h)
  exact ⟨xs, a, c, x, 0, rfl, h1, h2, h3, by omega, by omega, by simp⟩
theorem hAmong : cAmong.Holds objs Tryz.prog := runCtr_holds (X := { cxEm Tryz.prog with hints := hsAmong }) (fuel := 20) (opens := []) (folds := []) objsOk mixed noCts (callable _ Tryz.func13 (by kernel_rfl) (by kernel_rfl)) (by rintro ins _ ⟨_, _, _, _, rfl, _⟩; rfl) (by rw [rAmong]; exact vAmong _ _)
end Go.Proofs.YtdabdbbgaekmdaaGreat
namespace Go.Proofs.YtdabdbbgaekmdaaGreat
set_option linter.unusedVariables false
set_option linter.unusedSimpArgs false
set_option linter.unusedSectionVars false
open Go Go.RowKit
theorem jobsL_at {M : MemSt} {st : Int} : ∀ {m k r : Nat}, k < m → r < 3 → (jobsL M st m)[3 * k + r]? = (readL (M.at0 (IntKind.i64.wrap (st + (k : Int)))))[r]?
  | 0, k, r, hk, _ => by omega
  | m + 1, k, r, hk, hr => by
    rw [jobsL]
    by_cases h : k = m
    · subst h
      rw [List.getElem?_append_right (by rw [jobsL_len]; omega), jobsL_len, show 3 * k + r - 3 * k = r by omega]
    · rw [List.getElem?_append_left (by rw [jobsL_len]; omega)]
      exact jobsL_at (by omega) hr
theorem jobs_get {M : MemSt} {n : Int} {d : List Int} {i : Int} (n5 : n ≤ 5) (hlen : (M.W.length : Int) = 1 + 3 * n) (h0 : 0 ≤ i) (h1 : i < n) :
    (jobsL M (1 + n) n.toNat ++ d)[(i * 3 + 0).toNat]?.getD 0 = stw M n i % 256 ∧ (jobsL M (1 + n) n.toNat ++ d)[(i * 3 + 1).toNat]?.getD 0 = stw M n i / 256 % 256 ∧ (jobsL M (1 + n) n.toNat ++ d)[(i * 3 + 2).toNat]?.getD 0 = stw M n i / 4294967296 := by
  obtain ⟨m, rfl⟩ : ∃ m : Nat, i = m := ⟨i.toNat, by omega⟩
  have hw : M.at0 (IntKind.i64.wrap (1 + n + (m : Int))) = stw M n m := by
    rw [wrap_small (by omega) (by omega), at0_word (by omega) (by omega)]; rfl
  have hj := jobsL_len M (1 + n) n.toNat
  refine ⟨?_, ?_, ?_⟩
  · rw [show ((m : Int) * 3 + 0).toNat = 3 * m + 0 by omega, List.getElem?_append_left (by rw [hj]; omega), jobsL_at (by omega) (by omega), hw]; rfl
  · rw [show ((m : Int) * 3 + 1).toNat = 3 * m + 1 by omega, List.getElem?_append_left (by rw [hj]; omega), jobsL_at (by omega) (by omega), hw]; rfl
  · rw [show ((m : Int) * 3 + 2).toNat = 3 * m + 2 by omega, List.getElem?_append_left (by rw [hj]; omega), jobsL_at (by omega) (by omega), hw]; rfl
theorem fine_ne {o : CoSt} {id v w : Int} (h : fineP o id v w) : ¬ w % 256 = v % 256 := by
  unfold fineP at h
  split at h <;> omega
theorem fineB_of {o : CoSt} {id v w : Int} (h : fineP o id v w) (hk : kindO o ≠ 0) (hv : 0 ≤ v) (hv2 : v < 18446744073709551616) : fineB (kindO o) id (v % 256) (v / 256 % 256) (v / 4294967296) (w % 256) (w / 256 % 256) (w / 4294967296) = true := by
  cases o with
  | no => exact absurd rfl hk
  | key _ => exact absurd rfl hk
  | kof _ => exact absurd rfl hk
  | take O =>
    have h : v % 256 = 1 ∧ w % 256 = 2 ∧ w / 256 % 256 = 0 ∧ w / 4294967296 = v / 4294967296 + 1 := h
    show fineB 1 id (v % 256) (v / 256 % 256) (v / 4294967296) (w % 256) (w / 256 % 256) (w / 4294967296) = true
    unfold fineB
    rw [if_pos rfl, decide_eq_true_eq, wrap_small (by omega) (by omega)]
    exact h
  | give O =>
    have h : (v % 256 = 5 ∨ v % 256 = 2) ∧ w % 256 = 1 ∧ w / 256 % 256 = 0 ∧ w / 4294967296 = v / 4294967296 := h
    show fineB 2 id (v % 256) (v / 256 % 256) (v / 4294967296) (w % 256) (w / 256 % 256) (w / 4294967296) = true
    unfold fineB
    rw [if_neg (by decide), if_pos rfl, decide_eq_true_eq]
    exact h
  | turn O =>
    have h : w / 4294967296 = v / 4294967296 ∧ (v % 256 = 2 ∧ w % 256 = 3 ∧ w / 256 % 256 = 0 ∨ v % 256 = 3 ∧ (w % 256 = 2 ∧ w / 256 % 256 = 0 ∨ w % 256 = 4 ∧ w / 256 % 256 = id) ∨ v % 256 = 4 ∧ v / 256 % 256 = id ∧ w / 256 % 256 = 0 ∧ (w % 256 = 5 ∨ w % 256 = 3)) := h
    show fineB 3 id (v % 256) (v / 256 % 256) (v / 4294967296) (w % 256) (w / 256 % 256) (w / 4294967296) = true
    unfold fineB
    rw [if_neg (by decide), if_neg (by decide), decide_eq_true_eq]
    refine ⟨h.1, ?_⟩
    rcases h.2 with ⟨a, b, c⟩ | ⟨a, b⟩ | ⟨a, b, c, d⟩
    · rw [if_pos (.inl a)]; exact ⟨a, b, c⟩
    · rw [if_neg (by omega), if_pos a]; exact b
    · rw [if_neg (by omega), if_neg (by omega)]; exact ⟨a, b, c, d⟩
theorem Outc.x {M M' : MemSt} {n : Int} {T T' : List (Int × Int)} {id ch ch' : Int} {o o' : CoSt} (h : Outc M M' n T id o o' ch ch' T') : ∃ x, OutX M M' n T id o o' ch ch' T' x := by
  cases h with
  | quiet hs h => exact ⟨n, fun i h0 h1 _ => hs i h0 h1, .inl ⟨rfl, rfl, rfl⟩, h.imp (fun e => e) fun ⟨e, h⟩ => ⟨e, h⟩⟩
  | turn x hx hx' hs hf h0 h hT => exact ⟨x, hs, .inr ⟨hx, hx', hf, h0, rfl, rfl, hT⟩, h.imp (fun e => e) fun ⟨e, h⟩ => ⟨e, .inl ⟨h, rfl⟩⟩⟩
theorem flatP_len (T : List (Int × Int)) : (flatP T).length = T.length * 2 := by
  induction T with
  | nil => rfl
  | cons p T ih => show ([p.1, p.2] ++ flatP T).length = (T.length + 1) * 2; rw [List.length_append, ih]; show 2 + T.length * 2 = _; omega
theorem flatP_app (T : List (Int × Int)) (a b : Int) : flatP (T ++ [(a, b)]) = flatP T ++ [a, b] := by
  unfold flatP; rw [List.flatMap_append]; rfl
theorem flatP_get : ∀ {T : List (Int × Int)} {k : Nat} {d : List Int}, k < T.length → ∃ p, p ∈ T ∧ (flatP T ++ d)[2 * k]?.getD 0 = p.1 ∧ (flatP T ++ d)[2 * k + 1]?.getD 0 = p.2
  | p :: T, 0, d, _ => ⟨p, List.mem_cons_self .., rfl, rfl⟩
  | p :: T, k + 1, d, h => by
    obtain ⟨q, h1, h2, h3⟩ := flatP_get (T := T) (k := k) (d := d) (by simpa using h)
    exact ⟨q, List.mem_cons_of_mem _ h1, h2, h3⟩
theorem flatP_inj : ∀ {T T2 : List (Int × Int)} {d d2 : List Int}, flatP T ++ d = flatP T2 ++ d2 → T.length = T2.length → T = T2
  | [], [], _, _, _, _ => rfl
  | p :: T, q :: T2, d, d2, h, hl => by
    have h : p.1 :: p.2 :: (flatP T ++ d) = q.1 :: q.2 :: (flatP T2 ++ d2) := h
    injection h with a h
    injection h with b h
    rw [flatP_inj h (by simpa using hl), show p = q from Prod.ext a b]
  | [], _ :: _, _, _, _, hl => by simp at hl
  | _ :: _, [], _, _, _, hl => by simp at hl
theorem co_inj {M M2 : MemSt} {n n2 ch ch2 id id2 : Int} {o p : CoSt} (h : coOk M n o ch id) (h2 : coOk M2 n2 p ch2 id2) (a : oA o = oA p) (b : oB o = oB p) (c : oC o = oC p) : p = o := by
  cases o <;> cases p <;> first | rfl | exact h.elim | exact h2.elim | (simp only [oA, oB, oC, U.take.injEq, U.give.injEq, U.turn.injEq, reduceCtorEq] at a b c; done) | (simp only [oA, oB, oC, U.take.injEq, U.give.injEq, U.turn.injEq, reduceCtorEq] at a b c; subst_vars; rfl)
theorem cr_inj {M M2 : MemSt} {n n2 : Int} {o0 o1 o2 p0 p1 p2 : CoSt} {c0 c1 c2 e0 e1 e2 cp cp2 : Int} {T T2 : List (Int × Int)} {d d2 : List Int} {k k2 : Int} {C C2 : List Int} (J : JInv M n k C T ⟨o0, c0, 0⟩ ⟨o1, c1, 1⟩ ⟨o2, c2, 2⟩) (J2 : JInv M2 n2 k2 C2 T2 ⟨p0, e0, 0⟩ ⟨p1, e1, 1⟩ ⟨p2, e2, 2⟩)
    (h : crIns M n o0 o1 o2 c0 c1 c2 T d cp = crIns M2 n2 p0 p1 p2 e0 e1 e2 T2 d2 cp2) : M2 = M ∧ n2 = n ∧ p0 = o0 ∧ p1 = o1 ∧ p2 = o2 ∧ e0 = c0 ∧ e1 = c1 ∧ e2 = c2 ∧ T2 = T := by
  simp only [crIns, List.cons.injEq, EV.u.injEq, EV.i.injEq, EV.l.injEq, U.mem.injEq, and_true, true_and] at h
  obtain ⟨_, _, hn, hM, a0, a1, a2, b0, b1, b2, d0, d1, d2', g0, g1, g2, hT, hl, _⟩ := h
  exact ⟨hM.symm, hn.symm, co_inj J.ha.1 J2.ha.1 a0 b0 d0, co_inj J.hb.1 J2.hb.1 a1 b1 d1, co_inj J.hc.1 J2.hc.1 a2 b2 d2', g0.symm, g1.symm, g2.symm, (flatP_inj hT (by omega)).symm⟩
theorem minJ {M : MemSt} {n k1 : Int} {C1 : List Int} {T : List (Int × Int)} {a b c : CoT} (J : JInv M n k1 C1 T a b c) : ∃ k C, JInv M n k C T a b c ∧ 0 ≤ k ∧ k ≤ k1 ∧ ∀ k2 C2, JInv M n k2 C2 T a b c → k ≤ k2 := by
  have pos : ∀ k2 C2, JInv M n k2 C2 T a b c → 0 ≤ k2 := fun k2 C2 h => by have := h.tl; omega
  have hp := pos _ _ J
  obtain ⟨k, ⟨C, h1⟩, h2, h3⟩ := least (fun j => ∃ C, JInv M n (j : Int) C T a b c) k1.toNat ⟨C1, by rw [show ((k1.toNat : Nat) : Int) = k1 by omega]; exact J⟩
  refine ⟨k, C, h1, by omega, by omega, fun k2 C2 h => ?_⟩
  have hp2 := pos _ _ h
  have := h3 k2.toNat ⟨C2, by rw [show ((k2.toNat : Nat) : Int) = k2 by omega]; exact h⟩
  omega
theorem kind_step {o : CoSt} {M : MemSt} : kindO (o.step M).1 = kindO o := by cases o <;> rfl
theorem kind_tk {o o' : CoSt} (h : kindO o' = kindO o) (ho : isTk o = true) : ∃ O O', o = .take O ∧ o' = .take O' := by
  cases o <;> cases o' <;> first | exact ⟨_, _, rfl, rfl⟩ | (simp [isTk] at ho; done) | (simp [kindO] at h; done)
theorem kind3 {o o' : CoSt} (h : kindO o' = kindO o) (h0 : kindO o ≠ 0) : (∃ O O', o = .take O ∧ o' = .take O') ∨ (∃ O O', o = .give O ∧ o' = .give O') ∨ (∃ O O', o = .turn O ∧ o' = .turn O') := by
  cases o <;> cases o' <;> first | exact absurd rfl h0 | exact .inl ⟨_, _, rfl, rfl⟩ | exact .inr (.inl ⟨_, _, rfl, rfl⟩) | exact .inr (.inr ⟨_, _, rfl, rfl⟩) | (simp [kindO] at h; done)
section
variable {M : MemSt} {n : Int} {o0 o1 o2 : CoSt} {c0 c1 c2 cp a0 a1 a2 b0 b1 b2 : Int} {T : List (Int × Int)} {d : List Int} {k : Tree} {env : List (EV U)} {X : Cx U} {R : List (EV U) → List (EV U) → Prop} {ci : Nat} {β : List Bnd}
theorem kindAt0 (hk : kindO o0 ≠ 0) (l : List (EV U)) : kindAt (crIns M n o0 o1 o2 c0 c1 c2 T d cp ++ l) 0 = kindO o0 := by
  cases o0 <;> first | exact absurd rfl hk | rfl
theorem coAt0 (hk : kindO o0 ≠ 0) : coAt (crIns M n o0 o1 o2 c0 c1 c2 T d cp) 0 = o0 := by
  cases o0 <;> first | exact absurd rfl hk | rfl
theorem st_fine0 (hc : X.cts[ci]? = some cFine0) (ha : β.map (Bnd.den env) = crIns M n o0 o1 o2 c0 c1 c2 T d cp ++ [.i a0, .i a1, .i a2, .i b0, .i b1, .i b2]) (hk : kindO o0 ≠ 0) (hf : fineB (kindO o0) 0 a0 a1 a2 b0 b1 b2 = true) (h : k.sat X R (env ++ [.b true])) : (Tree.call ci β k).sat X R env :=
  st_call hc ha ⟨_, _, _, _, _, _, _, _, _, _, _, _, _, _, _, _, _, rfl, hk⟩ (by show [EV.b (fineB (kindAt _ 0) 0 a0 a1 a2 b0 b1 b2)] = _; rw [kindAt0 hk, hf]) rfl h
theorem st_stp0 (hc : X.cts[ci]? = some cStp0) (ha : β.map (Bnd.den env) = crIns M n o0 o1 o2 c0 c1 c2 T d cp) (hk : kindO o0 ≠ 0) (hM : M.fine) (hok : oOk o0) {env' : List (EV U)} (he : env ++ [.u (.mem (o0.step M).2), .u (oA (o0.step M).1), .u (oB (o0.step M).1), .u (oC (o0.step M).1), .b (decide (lineO (o0.step M).1 = 9)), .i (toldO (o0.step M).1)] = env') (h : k.sat X R env') : (Tree.call ci β k).sat X R env :=
  st_call hc ha ⟨_, _, _, _, _, _, _, _, _, _, _, rfl, hk, hM, hok⟩ (by show [EV.u (.mem ((coAt _ 0).step M).2), .u (oA ((coAt _ 0).step M).1), .u (oB ((coAt _ 0).step M).1), .u (oC ((coAt _ 0).step M).1), .b (decide (lineO ((coAt _ 0).step M).1 = 9)), .i (toldO ((coAt _ 0).step M).1)] = _; rw [coAt0 hk]) he h
theorem kindAt1 (hk : kindO o1 ≠ 0) (l : List (EV U)) : kindAt (crIns M n o0 o1 o2 c0 c1 c2 T d cp ++ l) 1 = kindO o1 := by
  cases o1 <;> first | exact absurd rfl hk | rfl
theorem coAt1 (hk : kindO o1 ≠ 0) : coAt (crIns M n o0 o1 o2 c0 c1 c2 T d cp) 1 = o1 := by
  cases o1 <;> first | exact absurd rfl hk | rfl
theorem st_fine1 (hc : X.cts[ci]? = some cFine1) (ha : β.map (Bnd.den env) = crIns M n o0 o1 o2 c0 c1 c2 T d cp ++ [.i a0, .i a1, .i a2, .i b0, .i b1, .i b2]) (hk : kindO o1 ≠ 0) (hf : fineB (kindO o1) 1 a0 a1 a2 b0 b1 b2 = true) (h : k.sat X R (env ++ [.b true])) : (Tree.call ci β k).sat X R env :=
  st_call hc ha ⟨_, _, _, _, _, _, _, _, _, _, _, _, _, _, _, _, _, rfl, hk⟩ (by show [EV.b (fineB (kindAt _ 1) 1 a0 a1 a2 b0 b1 b2)] = _; rw [kindAt1 hk, hf]) rfl h
theorem st_stp1 (hc : X.cts[ci]? = some cStp1) (ha : β.map (Bnd.den env) = crIns M n o0 o1 o2 c0 c1 c2 T d cp) (hk : kindO o1 ≠ 0) (hM : M.fine) (hok : oOk o1) {env' : List (EV U)} (he : env ++ [.u (.mem (o1.step M).2), .u (oA (o1.step M).1), .u (oB (o1.step M).1), .u (oC (o1.step M).1), .b (decide (lineO (o1.step M).1 = 9)), .i (toldO (o1.step M).1)] = env') (h : k.sat X R env') : (Tree.call ci β k).sat X R env :=
  st_call hc ha ⟨_, _, _, _, _, _, _, _, _, _, _, rfl, hk, hM, hok⟩ (by show [EV.u (.mem ((coAt _ 1).step M).2), .u (oA ((coAt _ 1).step M).1), .u (oB ((coAt _ 1).step M).1), .u (oC ((coAt _ 1).step M).1), .b (decide (lineO ((coAt _ 1).step M).1 = 9)), .i (toldO ((coAt _ 1).step M).1)] = _; rw [coAt1 hk]) he h
theorem kindAt2 (hk : kindO o2 ≠ 0) (l : List (EV U)) : kindAt (crIns M n o0 o1 o2 c0 c1 c2 T d cp ++ l) 2 = kindO o2 := by
  cases o2 <;> first | exact absurd rfl hk | rfl
theorem coAt2 (hk : kindO o2 ≠ 0) : coAt (crIns M n o0 o1 o2 c0 c1 c2 T d cp) 2 = o2 := by
  cases o2 <;> first | exact absurd rfl hk | rfl
theorem st_fine2 (hc : X.cts[ci]? = some cFine2) (ha : β.map (Bnd.den env) = crIns M n o0 o1 o2 c0 c1 c2 T d cp ++ [.i a0, .i a1, .i a2, .i b0, .i b1, .i b2]) (hk : kindO o2 ≠ 0) (hf : fineB (kindO o2) 2 a0 a1 a2 b0 b1 b2 = true) (h : k.sat X R (env ++ [.b true])) : (Tree.call ci β k).sat X R env :=
  st_call hc ha ⟨_, _, _, _, _, _, _, _, _, _, _, _, _, _, _, _, _, rfl, hk⟩ (by show [EV.b (fineB (kindAt _ 2) 2 a0 a1 a2 b0 b1 b2)] = _; rw [kindAt2 hk, hf]) rfl h
theorem st_stp2 (hc : X.cts[ci]? = some cStp2) (ha : β.map (Bnd.den env) = crIns M n o0 o1 o2 c0 c1 c2 T d cp) (hk : kindO o2 ≠ 0) (hM : M.fine) (hok : oOk o2) {env' : List (EV U)} (he : env ++ [.u (.mem (o2.step M).2), .u (oA (o2.step M).1), .u (oB (o2.step M).1), .u (oC (o2.step M).1), .b (decide (lineO (o2.step M).1 = 9)), .i (toldO (o2.step M).1)] = env') (h : k.sat X R env') : (Tree.call ci β k).sat X R env :=
  st_call hc ha ⟨_, _, _, _, _, _, _, _, _, _, _, rfl, hk, hM, hok⟩ (by show [EV.u (.mem ((coAt _ 2).step M).2), .u (oA ((coAt _ 2).step M).1), .u (oB ((coAt _ 2).step M).1), .u (oC ((coAt _ 2).step M).1), .b (decide (lineO ((coAt _ 2).step M).1 = 9)), .i (toldO ((coAt _ 2).step M).1)] = _; rw [coAt2 hk]) he h
end
theorem rel0_of {M M' : MemSt} {n k : Int} {C C' : List Int} {T T' : List (Int × Int)} {o0 o1 o2 o' : CoSt} {c0 c1 c2 c' cp cp' : Int} {d d' : List Int} (J : JInv M n k C T ⟨o0, c0, 0⟩ ⟨o1, c1, 1⟩ ⟨o2, c2, 2⟩) (hmin : ∀ k2 C2, JInv M n k2 C2 T ⟨o0, c0, 0⟩ ⟨o1, c1, 1⟩ ⟨o2, c2, 2⟩ → k ≤ k2) (J' : JInv M' n (k + 1) C' T' ⟨o', c', 0⟩ ⟨o1, c1, 1⟩ ⟨o2, c2, 2⟩) (hr : remJ M' n o' + 1 ≤ remJ M n o0) (hcp : 2 * cp' = ((flatP T' ++ d').length : Int)) :
    stepsRel0 (crIns M n o0 o1 o2 c0 c1 c2 T d cp) (outs9 M' o' c' T' d' cp') := by
  intro M2 n2 T2 p0 p1 p2 e0 e1 e2 d2 cp2 k2 C2 he J2
  obtain ⟨rfl, rfl, rfl, rfl, rfl, rfl, rfl, rfl, rfl⟩ := cr_inj J J2 he
  exact ⟨M', o', c', T', d', cp', C', rfl, hcp, hr, J'.mono (by have := hmin _ _ J2; omega)⟩
theorem rel1_of {M M' : MemSt} {n k : Int} {C C' : List Int} {T T' : List (Int × Int)} {o0 o1 o2 o' : CoSt} {c0 c1 c2 c' cp cp' : Int} {d d' : List Int} (J : JInv M n k C T ⟨o0, c0, 0⟩ ⟨o1, c1, 1⟩ ⟨o2, c2, 2⟩) (hmin : ∀ k2 C2, JInv M n k2 C2 T ⟨o0, c0, 0⟩ ⟨o1, c1, 1⟩ ⟨o2, c2, 2⟩ → k ≤ k2) (J' : JInv M' n (k + 1) C' T' ⟨o0, c0, 0⟩ ⟨o', c', 1⟩ ⟨o2, c2, 2⟩) (hr : remJ M' n o' + 1 ≤ remJ M n o1) (hcp : 2 * cp' = ((flatP T' ++ d').length : Int)) :
    stepsRel1 (crIns M n o0 o1 o2 c0 c1 c2 T d cp) (outs9 M' o' c' T' d' cp') := by
  intro M2 n2 T2 p0 p1 p2 e0 e1 e2 d2 cp2 k2 C2 he J2
  obtain ⟨rfl, rfl, rfl, rfl, rfl, rfl, rfl, rfl, rfl⟩ := cr_inj J J2 he
  exact ⟨M', o', c', T', d', cp', C', rfl, hcp, hr, J'.mono (by have := hmin _ _ J2; omega)⟩
theorem rel2_of {M M' : MemSt} {n k : Int} {C C' : List Int} {T T' : List (Int × Int)} {o0 o1 o2 o' : CoSt} {c0 c1 c2 c' cp cp' : Int} {d d' : List Int} (J : JInv M n k C T ⟨o0, c0, 0⟩ ⟨o1, c1, 1⟩ ⟨o2, c2, 2⟩) (hmin : ∀ k2 C2, JInv M n k2 C2 T ⟨o0, c0, 0⟩ ⟨o1, c1, 1⟩ ⟨o2, c2, 2⟩ → k ≤ k2) (J' : JInv M' n (k + 1) C' T' ⟨o0, c0, 0⟩ ⟨o1, c1, 1⟩ ⟨o', c', 2⟩) (hr : remJ M' n o' + 1 ≤ remJ M n o2) (hcp : 2 * cp' = ((flatP T' ++ d').length : Int)) :
    stepsRel2 (crIns M n o0 o1 o2 c0 c1 c2 T d cp) (outs9 M' o' c' T' d' cp') := by
  intro M2 n2 T2 p0 p1 p2 e0 e1 e2 d2 cp2 k2 C2 he J2
  obtain ⟨rfl, rfl, rfl, rfl, rfl, rfl, rfl, rfl, rfl⟩ := cr_inj J J2 he
  exact ⟨M', o', c', T', d', cp', C', rfl, hcp, hr, J'.mono (by have := hmin _ _ J2; omega)⟩
end Go.Proofs.YtdabdbbgaekmdaaGreat
