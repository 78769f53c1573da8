/- The law of Finds beside the document: a round (printed by gen_qd.py). -/
import Derived.Test.YtbmbiiiacajolaaGreatQe
namespace Go.Proofs.YtbmbiiiacajolaaGreat
set_option linter.unusedVariables false
set_option linter.unusedSimpArgs false
set_option linter.unusedSectionVars false
open Go Go.RowKit

set_option maxRecDepth 10000 in
set_option maxHeartbeats 8000000 in
theorem bFS0 (P : Program) (hs : List (Nat × Nat × List Nat)) {a0 a1 a2 a3 a4 a5 a6 a7 a8 a9 a10 a11 a12 s : Int} {gi : Nat → Nat → Int} {ki : Nat} {ci : Int} {gl : Nat → Nat → Int} {kl : Nat} {cl : Int} {x20 x21 x22 x23 x24 x25 x26 x27 x28 x29 : EV U} {M : MemSt} {o0 o1 o2 : Option FindSt} {i : Int} (h1 : 0 ≤ i) (h2 : i ≤ kl) (h3 : kl ≤ 200) (h4 : 1 ≤ M.W.length) (hM : M.fine) (ht : okT a0 a1 a2 a5 = true) (hw : ∀ j, j < kl → isW (gl j 3)) (k0 : fhOk o0) (k1 : fhOk o1) (k2 : fhOk o2) (hp : (gl i.toNat 0).emod 3 = 0) :
    tFStepsL0.sat { cxQd P [lFS1, lFS2] with hints := hs } (ctrR cFSteps) [.i a0, .i a1, .i a2, .i a3, .i a4, .i a5, .i a6, .i a7, .i a8, .i a9, .i a10, .i a11, .i a12, .i s, .f gi ki, .i ki, .i ci, .f gl kl, .i kl, .i cl, x20, x21, x22, x23, x24, x25, x26, x27, x28, x29, .u (.mem M), .u (.rmem M), .u (fhA o0), .u (fhB o0), .u (fhA o1), .u (fhB o1), .u (fhA o2), .u (fhB o2), .i i] := by
  by_cases hi : i < kl
  · have hw3 := hw i.toNat (by omega)
    rcases o0 with _ | L
    (have hL : True := trivial
     unfold tFStepsL0
     simp only [fhA_n, fhA_s, fhB_n, fhB_s])
    rotate_left
    (have hL := k0 L rfl
     unfold tFStepsL0
     simp only [fhA_n, fhA_s, fhB_n, fhB_s])
    rotate_left
    all_goals
      repeat' (first
        | (first
          | (with_reducible refine st_need ?_ ?_
             focus (simp only [dn, reduceCtorEq, hp, va_map] <;> first | omega | assumption))
          | (with_reducible refine st_and ?_ ?_)
          | (with_reducible exact st_ok)
          | (with_reducible refine st_br (fun hc => ?_) (fun hc => ?_) <;> (simp only [dn, reduceCtorEq, hp, va_map] at hc) <;> (try (exfalso; first | contradiction | omega)))
          | (refine st_call (by rfl) (by simp only [dn, reduceCtorEq, hp, va_map] <;> rfl) ?_ (by simp only [out_pick, hp, out_fnew, out_qfnew, out_fstep, out_qfstep, out_alike, out_store, fo_store, out_last, out_qlast, out_count, out_qcount, out_words, out_swm, out_awk] <;> rfl) (by simp only [dn] <;> rfl) ?_
             focus (first | exact pre_pick (by decide) (by decide) | exact ⟨_, _, _, _, _, _, _, _, _, _, _, _, _, _, rfl, ht⟩ | exact ⟨_, _, rfl, hM⟩ | exact .inl ⟨_, rfl, (by first | exact new_fit ht | exact step_fit hL | exact hL)⟩ | exact .inr rfl | exact ⟨_, _, _, rfl⟩ | exact ⟨_, _, _, rfl, hM.1⟩ | exact ⟨_, rfl⟩ | rfl | exact pre_swm (by first | exact hM.1 | exact (step_fine hM).1 | exact (fine_store hM hw3).1)))
          | (with_reducible refine st_ret (by simp only [dn, reduceCtorEq, hp, va_map] <;> rfl) ?_
             (first | rfl | exact ⟨_, rfl⟩)))
        | (refine qwords (by rfl) (by simp only [dn, reduceCtorEq, hp] <;> rfl) ?_ ?_ (fun cc env' he => ?_)
           focus exact (by first | assumption | (rw [step_len]; assumption) | (rw [len_store]; assumption))
           focus exact (by first | exact hM.1 | exact (step_fine hM).1 | exact (fine_store hM hw3).1)
           simp only [List.cons_append, List.nil_append] at he
           subst he)
        | (refine st_back (by rfl) (by simp only [dn, reduceCtorEq, hp, va_map] <;> rfl) (by simp only [dn] <;> rfl) (by rfl) ?_ ?_
           focus (rw [wrap_small (n := i + 1) (by omega) (by omega)]
                  first
                    | exact ⟨_, _, _, _, _, _, _, _, _, _, _, _, _, _, _, _, _, _, _, _, _, _, _, _, _, _, _, _, _, _, _, (some _), _, _, _, rfl, by omega, by omega, h3, (by first | assumption | (rw [step_len]; assumption) | (rw [len_store]; assumption)), (by first | exact hM | exact step_fine hM | exact fine_store hM hw3), ht, hw, (fh_some (by first | exact new_fit ht | exact step_fit hL | exact hL)), k1, k2⟩
                    | exact ⟨_, _, _, _, _, _, _, _, _, _, _, _, _, _, _, _, _, _, _, _, _, _, _, _, _, _, _, _, _, _, _, none, _, _, _, rfl, by omega, by omega, h3, (by first | assumption | (rw [step_len]; assumption) | (rw [len_store]; assumption)), (by first | exact hM | exact step_fine hM | exact fine_store hM hw3), ht, hw, fh_none, k1, k2⟩)
           focus (rw [wrap_small (n := i + 1) (by omega) (by omega)]; show ((kl : Int) - (i + 1)).toNat < ((kl : Int) - i).toNat; omega))
        | fail "no step")
  · have hi' : (kl : Int) ≤ i := by omega
    unfold tFStepsL0
    repeat' (first
      | (first
        | (with_reducible refine st_need ?_ ?_
           focus (simp only [dn, reduceCtorEq, hp, va_map] <;> first | omega | assumption))
        | (with_reducible refine st_and ?_ ?_)
        | (with_reducible exact st_ok)
        | (with_reducible refine st_br (fun hc => ?_) (fun hc => ?_) <;> (simp only [dn, reduceCtorEq, hp, va_map] at hc) <;> (try (exfalso; first | contradiction | omega)))
        | (refine st_call (by rfl) (by simp only [dn, reduceCtorEq, hp, va_map] <;> rfl) ?_ (by simp only [out_awk] <;> rfl) (by simp only [dn] <;> rfl) ?_
           focus (first | rfl))
        | (with_reducible refine st_ret (by simp only [dn, reduceCtorEq, hp, va_map] <;> rfl) ?_
           (first | rfl | exact ⟨_, rfl⟩)))
      | fail "no step")
set_option maxRecDepth 10000 in
set_option maxHeartbeats 8000000 in
theorem bFS1 (P : Program) (hs : List (Nat × Nat × List Nat)) {a0 a1 a2 a3 a4 a5 a6 a7 a8 a9 a10 a11 a12 s : Int} {gi : Nat → Nat → Int} {ki : Nat} {ci : Int} {gl : Nat → Nat → Int} {kl : Nat} {cl : Int} {x20 x21 x22 x23 x24 x25 x26 x27 x28 x29 : EV U} {M : MemSt} {o0 o1 o2 : Option FindSt} {i : Int} (h1 : 0 ≤ i) (h2 : i ≤ kl) (h3 : kl ≤ 200) (h4 : 1 ≤ M.W.length) (hM : M.fine) (ht : okT a0 a1 a2 a5 = true) (hw : ∀ j, j < kl → isW (gl j 3)) (k0 : fhOk o0) (k1 : fhOk o1) (k2 : fhOk o2) (hp : (gl i.toNat 0).emod 3 = 1) :
    tFStepsL0.sat { cxQd P [lFS1, lFS2] with hints := hs } (ctrR cFSteps) [.i a0, .i a1, .i a2, .i a3, .i a4, .i a5, .i a6, .i a7, .i a8, .i a9, .i a10, .i a11, .i a12, .i s, .f gi ki, .i ki, .i ci, .f gl kl, .i kl, .i cl, x20, x21, x22, x23, x24, x25, x26, x27, x28, x29, .u (.mem M), .u (.rmem M), .u (fhA o0), .u (fhB o0), .u (fhA o1), .u (fhB o1), .u (fhA o2), .u (fhB o2), .i i] := by
  by_cases hi : i < kl
  · have hw3 := hw i.toNat (by omega)
    rcases o1 with _ | L
    (have hL : True := trivial
     unfold tFStepsL0
     simp only [fhA_n, fhA_s, fhB_n, fhB_s])
    rotate_left
    (have hL := k1 L rfl
     unfold tFStepsL0
     simp only [fhA_n, fhA_s, fhB_n, fhB_s])
    rotate_left
    all_goals
      repeat' (first
        | (first
          | (with_reducible refine st_need ?_ ?_
             focus (simp only [dn, reduceCtorEq, hp, va_map] <;> first | omega | assumption))
          | (with_reducible refine st_and ?_ ?_)
          | (with_reducible exact st_ok)
          | (with_reducible refine st_br (fun hc => ?_) (fun hc => ?_) <;> (simp only [dn, reduceCtorEq, hp, va_map] at hc) <;> (try (exfalso; first | contradiction | omega)))
          | (refine st_call (by rfl) (by simp only [dn, reduceCtorEq, hp, va_map] <;> rfl) ?_ (by simp only [out_pick, hp, out_fnew, out_qfnew, out_fstep, out_qfstep, out_alike, out_store, fo_store, out_last, out_qlast, out_count, out_qcount, out_words, out_swm, out_awk] <;> rfl) (by simp only [dn] <;> rfl) ?_
             focus (first | exact pre_pick (by decide) (by decide) | exact ⟨_, _, _, _, _, _, _, _, _, _, _, _, _, _, rfl, ht⟩ | exact ⟨_, _, rfl, hM⟩ | exact .inl ⟨_, rfl, (by first | exact new_fit ht | exact step_fit hL | exact hL)⟩ | exact .inr rfl | exact ⟨_, _, _, rfl⟩ | exact ⟨_, _, _, rfl, hM.1⟩ | exact ⟨_, rfl⟩ | rfl | exact pre_swm (by first | exact hM.1 | exact (step_fine hM).1 | exact (fine_store hM hw3).1)))
          | (with_reducible refine st_ret (by simp only [dn, reduceCtorEq, hp, va_map] <;> rfl) ?_
             (first | rfl | exact ⟨_, rfl⟩)))
        | (refine qwords (by rfl) (by simp only [dn, reduceCtorEq, hp] <;> rfl) ?_ ?_ (fun cc env' he => ?_)
           focus exact (by first | assumption | (rw [step_len]; assumption) | (rw [len_store]; assumption))
           focus exact (by first | exact hM.1 | exact (step_fine hM).1 | exact (fine_store hM hw3).1)
           simp only [List.cons_append, List.nil_append] at he
           subst he)
        | (refine st_back (by rfl) (by simp only [dn, reduceCtorEq, hp, va_map] <;> rfl) (by simp only [dn] <;> rfl) (by rfl) ?_ ?_
           focus (rw [wrap_small (n := i + 1) (by omega) (by omega)]
                  first
                    | exact ⟨_, _, _, _, _, _, _, _, _, _, _, _, _, _, _, _, _, _, _, _, _, _, _, _, _, _, _, _, _, _, _, _, (some _), _, _, rfl, by omega, by omega, h3, (by first | assumption | (rw [step_len]; assumption) | (rw [len_store]; assumption)), (by first | exact hM | exact step_fine hM | exact fine_store hM hw3), ht, hw, k0, (fh_some (by first | exact new_fit ht | exact step_fit hL | exact hL)), k2⟩
                    | exact ⟨_, _, _, _, _, _, _, _, _, _, _, _, _, _, _, _, _, _, _, _, _, _, _, _, _, _, _, _, _, _, _, _, none, _, _, rfl, by omega, by omega, h3, (by first | assumption | (rw [step_len]; assumption) | (rw [len_store]; assumption)), (by first | exact hM | exact step_fine hM | exact fine_store hM hw3), ht, hw, k0, fh_none, k2⟩)
           focus (rw [wrap_small (n := i + 1) (by omega) (by omega)]; show ((kl : Int) - (i + 1)).toNat < ((kl : Int) - i).toNat; omega))
        | fail "no step")
  · have hi' : (kl : Int) ≤ i := by omega
    unfold tFStepsL0
    repeat' (first
      | (first
        | (with_reducible refine st_need ?_ ?_
           focus (simp only [dn, reduceCtorEq, hp, va_map] <;> first | omega | assumption))
        | (with_reducible refine st_and ?_ ?_)
        | (with_reducible exact st_ok)
        | (with_reducible refine st_br (fun hc => ?_) (fun hc => ?_) <;> (simp only [dn, reduceCtorEq, hp, va_map] at hc) <;> (try (exfalso; first | contradiction | omega)))
        | (refine st_call (by rfl) (by simp only [dn, reduceCtorEq, hp, va_map] <;> rfl) ?_ (by simp only [out_awk] <;> rfl) (by simp only [dn] <;> rfl) ?_
           focus (first | rfl))
        | (with_reducible refine st_ret (by simp only [dn, reduceCtorEq, hp, va_map] <;> rfl) ?_
           (first | rfl | exact ⟨_, rfl⟩)))
      | fail "no step")
set_option maxRecDepth 10000 in
set_option maxHeartbeats 8000000 in
theorem bFS2 (P : Program) (hs : List (Nat × Nat × List Nat)) {a0 a1 a2 a3 a4 a5 a6 a7 a8 a9 a10 a11 a12 s : Int} {gi : Nat → Nat → Int} {ki : Nat} {ci : Int} {gl : Nat → Nat → Int} {kl : Nat} {cl : Int} {x20 x21 x22 x23 x24 x25 x26 x27 x28 x29 : EV U} {M : MemSt} {o0 o1 o2 : Option FindSt} {i : Int} (h1 : 0 ≤ i) (h2 : i ≤ kl) (h3 : kl ≤ 200) (h4 : 1 ≤ M.W.length) (hM : M.fine) (ht : okT a0 a1 a2 a5 = true) (hw : ∀ j, j < kl → isW (gl j 3)) (k0 : fhOk o0) (k1 : fhOk o1) (k2 : fhOk o2) (hp : (gl i.toNat 0).emod 3 = 2) :
    tFStepsL0.sat { cxQd P [lFS1, lFS2] with hints := hs } (ctrR cFSteps) [.i a0, .i a1, .i a2, .i a3, .i a4, .i a5, .i a6, .i a7, .i a8, .i a9, .i a10, .i a11, .i a12, .i s, .f gi ki, .i ki, .i ci, .f gl kl, .i kl, .i cl, x20, x21, x22, x23, x24, x25, x26, x27, x28, x29, .u (.mem M), .u (.rmem M), .u (fhA o0), .u (fhB o0), .u (fhA o1), .u (fhB o1), .u (fhA o2), .u (fhB o2), .i i] := by
  by_cases hi : i < kl
  · have hw3 := hw i.toNat (by omega)
    rcases o2 with _ | L
    (have hL : True := trivial
     unfold tFStepsL0
     simp only [fhA_n, fhA_s, fhB_n, fhB_s])
    rotate_left
    (have hL := k2 L rfl
     unfold tFStepsL0
     simp only [fhA_n, fhA_s, fhB_n, fhB_s])
    rotate_left
    all_goals
      repeat' (first
        | (first
          | (with_reducible refine st_need ?_ ?_
             focus (simp only [dn, reduceCtorEq, hp, va_map] <;> first | omega | assumption))
          | (with_reducible refine st_and ?_ ?_)
          | (with_reducible exact st_ok)
          | (with_reducible refine st_br (fun hc => ?_) (fun hc => ?_) <;> (simp only [dn, reduceCtorEq, hp, va_map] at hc) <;> (try (exfalso; first | contradiction | omega)))
          | (refine st_call (by rfl) (by simp only [dn, reduceCtorEq, hp, va_map] <;> rfl) ?_ (by simp only [out_pick, hp, out_fnew, out_qfnew, out_fstep, out_qfstep, out_alike, out_store, fo_store, out_last, out_qlast, out_count, out_qcount, out_words, out_swm, out_awk] <;> rfl) (by simp only [dn] <;> rfl) ?_
             focus (first | exact pre_pick (by decide) (by decide) | exact ⟨_, _, _, _, _, _, _, _, _, _, _, _, _, _, rfl, ht⟩ | exact ⟨_, _, rfl, hM⟩ | exact .inl ⟨_, rfl, (by first | exact new_fit ht | exact step_fit hL | exact hL)⟩ | exact .inr rfl | exact ⟨_, _, _, rfl⟩ | exact ⟨_, _, _, rfl, hM.1⟩ | exact ⟨_, rfl⟩ | rfl | exact pre_swm (by first | exact hM.1 | exact (step_fine hM).1 | exact (fine_store hM hw3).1)))
          | (with_reducible refine st_ret (by simp only [dn, reduceCtorEq, hp, va_map] <;> rfl) ?_
             (first | rfl | exact ⟨_, rfl⟩)))
        | (refine qwords (by rfl) (by simp only [dn, reduceCtorEq, hp] <;> rfl) ?_ ?_ (fun cc env' he => ?_)
           focus exact (by first | assumption | (rw [step_len]; assumption) | (rw [len_store]; assumption))
           focus exact (by first | exact hM.1 | exact (step_fine hM).1 | exact (fine_store hM hw3).1)
           simp only [List.cons_append, List.nil_append] at he
           subst he)
        | (refine st_back (by rfl) (by simp only [dn, reduceCtorEq, hp, va_map] <;> rfl) (by simp only [dn] <;> rfl) (by rfl) ?_ ?_
           focus (rw [wrap_small (n := i + 1) (by omega) (by omega)]
                  first
                    | exact ⟨_, _, _, _, _, _, _, _, _, _, _, _, _, _, _, _, _, _, _, _, _, _, _, _, _, _, _, _, _, _, _, _, _, (some _), _, rfl, by omega, by omega, h3, (by first | assumption | (rw [step_len]; assumption) | (rw [len_store]; assumption)), (by first | exact hM | exact step_fine hM | exact fine_store hM hw3), ht, hw, k0, k1, (fh_some (by first | exact new_fit ht | exact step_fit hL | exact hL))⟩
                    | exact ⟨_, _, _, _, _, _, _, _, _, _, _, _, _, _, _, _, _, _, _, _, _, _, _, _, _, _, _, _, _, _, _, _, _, none, _, rfl, by omega, by omega, h3, (by first | assumption | (rw [step_len]; assumption) | (rw [len_store]; assumption)), (by first | exact hM | exact step_fine hM | exact fine_store hM hw3), ht, hw, k0, k1, fh_none⟩)
           focus (rw [wrap_small (n := i + 1) (by omega) (by omega)]; show ((kl : Int) - (i + 1)).toNat < ((kl : Int) - i).toNat; omega))
        | fail "no step")
  · have hi' : (kl : Int) ≤ i := by omega
    unfold tFStepsL0
    repeat' (first
      | (first
        | (with_reducible refine st_need ?_ ?_
           focus (simp only [dn, reduceCtorEq, hp, va_map] <;> first | omega | assumption))
        | (with_reducible refine st_and ?_ ?_)
        | (with_reducible exact st_ok)
        | (with_reducible refine st_br (fun hc => ?_) (fun hc => ?_) <;> (simp only [dn, reduceCtorEq, hp, va_map] at hc) <;> (try (exfalso; first | contradiction | omega)))
        | (refine st_call (by rfl) (by simp only [dn, reduceCtorEq, hp, va_map] <;> rfl) ?_ (by simp only [out_awk] <;> rfl) (by simp only [dn] <;> rfl) ?_
           focus (first | rfl))
        | (with_reducible refine st_ret (by simp only [dn, reduceCtorEq, hp, va_map] <;> rfl) ?_
           (first | rfl | exact ⟨_, rfl⟩)))
      | fail "no step")
end Go.Proofs.YtbmbiiiacajolaaGreat
