/- Jobs, once: the end (printed by gen_db.py). -/
import Derived.Test.YtdabdbbgaekmdaaGreatEyMO
import Derived.Test.YtdabdbbgaekmdaaGreatEyTO
namespace Go.Proofs.YtdabdbbgaekmdaaGreat
set_option linter.unusedVariables false
set_option linter.unusedSimpArgs false
set_option linter.unusedSectionVars false
open Go Go.RowKit
set_option maxRecDepth 10000 in
set_option maxHeartbeats 8000000 in
theorem bFin (P : Program) (hs : List (Nat × Nat × List Nat)) : ∀ env, onF env → tOnceL0.sat { cxEy P with hints := hs } (ctrR cOnce) env := by
  rintro env ⟨sz, gl, kl, cl, p, x6, x7, x8, y0, y1, y2, y3, y4, y5, y6, y7, y8, y9, y10, y11, y12, y13, y14, y15, y16, y17, y18, y19, y20, y21, y22, y23, y24, y25, y26, y27, y28, y29, y30, y31, y32, y33, y34, y35, y36, y37, y38, y39, y40, y41, y42, y43, y44, y45, y46, y47, y48, y49, y50, y51, y52, y53, y54, y55, y56, y57, y58, y59, y60, y61, y62, y63, y64, y65, y66, y67, y68, y69, y70, y71, y72, y73, y74, y75, y76, y77, y78, y79, y80, y81, y82, y83, y84, y85, y86, y87, M, C, cc, d2, ca, cp2, i, rfl, h0, h1, p0, p5, len, hnd, hC, hfr⟩
  have hw : IntKind.i64.wrap (1 + p) = 1 + p := wrap_small (by omega) (by omega)
  have e0 : IntKind.i64.wrap (i + 1) = i + 1 := wrap_small (by omega) (by omega)
  have hm : IntKind.i64.wrap (i * 3) = i * 3 := wrap_small (by omega) (by omega)
  have ha0 : IntKind.i64.wrap (i * 3 + 0) = i * 3 + 0 := wrap_small (by omega) (by omega)
  have ha2 : IntKind.i64.wrap (i * 3 + 2) = i * 3 + 2 := wrap_small (by omega) (by omega)
  have hj2 : ((jobsL M (1 + (1 + p)) (1 + p).toNat ++ d2).length : Int) = 3 * (1 + p) + d2.length := by rw [List.length_append, jobsL_len]; omega
  have hCl := bound_len hnd hC
  have htk : (C ++ cc).take ((C.length : Nat) : Int).toNat = C := by rw [Int.toNat_natCast, List.take_left' rfl]
  have hCa : (C.length : Int) ≤ ((C ++ cc).length : Int) := by rw [List.length_append]; omega
  by_cases hi : i < 1 + p
  · obtain ⟨f0, _, _⟩ := jobs_get (d := d2) (n := 1 + p) (by omega) len h0 hi
    have hfl := List.length_filter_le (fun x => decide (x < i)) C
    have hs1 := filt_succ (i := i) hnd
    have hwc : IntKind.i64.wrap (((C.filter (fun x => decide (x < i))).length : Int) + 1) = ((C.filter (fun x => decide (x < i))).length : Int) + 1 := wrap_small (by omega) (by omega)
    by_cases hin : i ∈ C
    · have hd : decide (i ∈ C) = true := decide_eq_true hin
      have hcm : cmpDen .eql (stw M (1 + p) i % 256) 1 = true := by rw [(hfr i h0 hi).2 hin]; rfl
      rw [if_pos hin] at hs1
      unfold tOnceL0
      simp only [List.cons_append, List.nil_append]
      repeat' (first
        | (first
          | (with_reducible refine st_need ?_ ?_
             focus (simp only [dn, reduceCtorEq, hm, ha0, ha2, f0, hj2, hcm, hd] <;> first | omega | assumption))
          | (with_reducible refine st_and ?_ ?_)
          | (with_reducible exact st_ok)
          | (with_reducible refine st_br (fun hc => ?_) (fun hc => ?_) <;> (simp only [dn, reduceCtorEq, hm, ha0, ha2, f0, hj2, hcm, hd] at hc) <;> (try (exfalso; first | contradiction | omega)))
          | (refine st_call (by rfl) (by simp only [dn, reduceCtorEq, hm, ha0, ha2, f0, hj2, hcm, hd] <;> rfl) ?_ (by simp only [out_Among, htk, hd] <;> rfl) (by simp only [dn] <;> rfl) ?_
             focus (first | exact ⟨_, _, _, _, rfl, by omega, by omega, by omega⟩)))
        | (refine st_back (by rfl) (by simp only [dn, reduceCtorEq, e0, hwc, hcm, f0] <;> rfl) (by simp only [dn] <;> rfl) (by rfl) ?_ ?_
           focus exact ⟨sz, gl, kl, cl, p, x6, x7, x8, y0, y1, y2, y3, y4, y5, y6, y7, y8, y9, y10, y11, y12, y13, y14, y15, y16, y17, y18, y19, y20, y21, y22, y23, y24, y25, y26, y27, y28, y29, y30, y31, y32, y33, y34, y35, y36, y37, y38, y39, y40, y41, y42, y43, y44, y45, y46, y47, y48, y49, y50, y51, y52, y53, y54, y55, y56, y57, y58, y59, y60, y61, y62, y63, y64, y65, y66, y67, y68, y69, y70, y71, y72, y73, y74, y75, y76, y77, y78, y79, y80, y81, y82, y83, y84, y85, y86, y87, M, C, cc, d2, ca, cp2, i + 1, by rw [hs1]; rfl, by omega, by omega, p0, p5, len, hnd, hC, hfr⟩
           focus (show ((1 + p) - (i + 1)).toNat < ((1 + p) - i).toNat; omega))
        | fail "no step")
    · have hd : decide (i ∈ C) = false := decide_eq_false hin
      have hcm : cmpDen .eql (stw M (1 + p) i % 256) 1 = false := decide_eq_false (fun e => hin ((hfr i h0 hi).1 e))
      rw [if_neg hin] at hs1
      unfold tOnceL0
      simp only [List.cons_append, List.nil_append]
      repeat' (first
        | (first
          | (with_reducible refine st_need ?_ ?_
             focus (simp only [dn, reduceCtorEq, hm, ha0, ha2, f0, hj2, hcm, hd] <;> first | omega | assumption))
          | (with_reducible refine st_and ?_ ?_)
          | (with_reducible exact st_ok)
          | (with_reducible refine st_br (fun hc => ?_) (fun hc => ?_) <;> (simp only [dn, reduceCtorEq, hm, ha0, ha2, f0, hj2, hcm, hd] at hc) <;> (try (exfalso; first | contradiction | omega)))
          | (refine st_call (by rfl) (by simp only [dn, reduceCtorEq, hm, ha0, ha2, f0, hj2, hcm, hd] <;> rfl) ?_ (by simp only [out_Among, htk, hd] <;> rfl) (by simp only [dn] <;> rfl) ?_
             focus (first | exact ⟨_, _, _, _, rfl, by omega, by omega, by omega⟩)))
        | (refine st_back (by rfl) (by simp only [dn, reduceCtorEq, e0, hwc, hcm, f0] <;> rfl) (by simp only [dn] <;> rfl) (by rfl) ?_ ?_
           focus exact ⟨sz, gl, kl, cl, p, x6, x7, x8, y0, y1, y2, y3, y4, y5, y6, y7, y8, y9, y10, y11, y12, y13, y14, y15, y16, y17, y18, y19, y20, y21, y22, y23, y24, y25, y26, y27, y28, y29, y30, y31, y32, y33, y34, y35, y36, y37, y38, y39, y40, y41, y42, y43, y44, y45, y46, y47, y48, y49, y50, y51, y52, y53, y54, y55, y56, y57, y58, y59, y60, y61, y62, y63, y64, y65, y66, y67, y68, y69, y70, y71, y72, y73, y74, y75, y76, y77, y78, y79, y80, y81, y82, y83, y84, y85, y86, y87, M, C, cc, d2, ca, cp2, i + 1, by rw [hs1]; rfl, by omega, by omega, p0, p5, len, hnd, hC, hfr⟩
           focus (show ((1 + p) - (i + 1)).toNat < ((1 + p) - i).toNat; omega))
        | fail "no step")
  · obtain rfl : i = 1 + p := by omega
    have hfa : C.filter (fun x => decide (x < 1 + p)) = C := filt_all fun x hx => (hC x hx).2
    rw [hfa]
    have hcc : cmpDen .eql ((C.length : Nat) : Int) ((C.length : Nat) : Int) = true := by simp [cmpDen]
    unfold tOnceL0
    simp only [List.cons_append, List.nil_append]
    repeat' (first
      | (first
        | (with_reducible refine st_need ?_ ?_
           focus (simp only [dn, reduceCtorEq, hj2] <;> first | omega | assumption))
        | (with_reducible refine st_and ?_ ?_)
        | (with_reducible exact st_ok)
        | (with_reducible refine st_br (fun hc => ?_) (fun hc => ?_) <;> (simp only [dn, reduceCtorEq, hj2] at hc) <;> (try (exfalso; first | contradiction | omega)))
        | (refine st_call (by rfl) (by simp only [dn, reduceCtorEq, hj2] <;> rfl) ?_ (by rfl <;> rfl) (by simp only [dn] <;> rfl) ?_
           focus (first | rfl)))
      | (refine st_ret (by simp only [dn, reduceCtorEq, hcc] <;> rfl) ?_
         rfl)
      | fail "no step")
end Go.Proofs.YtdabdbbgaekmdaaGreat
