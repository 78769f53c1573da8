/- Texts of this proof. -/
import Derived.Test.YtdldcofddfkkbaaGreatBBO
import Derived.Test.YtdldcofddfkkbaaGreatBHO
import Derived.Test.YtdldcofddfkkbaaGreatAiMO
import Derived.Test.YtdldcofddfkkbaaGreatXbO
import Derived.Test.YtdldcofddfkkbaaGreatB2O
import Derived.Test.YtdldcofddfkkbaaGreatTwO
namespace Go.Proofs.YtdldcofddfkkbaaGreat
set_option linter.unusedVariables false
set_option linter.unusedSimpArgs false
set_option linter.unusedSectionVars false
open Go Go.RowKit
theorem fineFillK {M : MemSt} (h : M.fine) (t l s : Int) : ∀ k, k ≤ 4096 → (fillK M t l s k).fine
 | 0, _ => fine_store h ⟨by decide, by decide⟩
 | k + 1, hk => fine_store (fineFillK h t l s k (by omega)) (by split <;> exact ⟨by omega, by omega⟩)
theorem fineFillR {M : MemSt} (h : M.fine) (a : Int) {x : Int} (hx : isW x) : ∀ k, (fillR M a x k).fine
 | 0 => h
 | k + 1 => fine_store (fineFillR h a hx k) hx
theorem fineFill15 {M : MemSt} (h : M.fine) (n hh a t l s g w ea ep ec tp : Int) : (fill15 M n hh a t l s g w ea ep ec tp).fine := by
 have h10 : (fill10 M t l s).fine := by
  unfold fill10
  split
  · exact fineFillK h _ _ _ _ (by omega)
  · exact h
 have h11 : (fill11 M t l s g w).fine := by
  unfold fill11
  split
  · exact fineFillR (fine_store h10 isW0) _ ⟨by decide, by decide⟩ _
  · exact h
 have h12 : (fill12 (fill11 M t l s g w) ea ep ec).fine := by
  unfold fill12
  split
  · exact fineFillR (fine_store h11 isW0) _ isW0 _
  · exact h11
 unfold fill15
 split
 · exact fineFillR (fineFillR h12 _ isW0 _) _ isW0 _
 · exact h
theorem hctsHd : ∀ (ci : Nat) (c : Ctr U), ctsHd[ci]? = some c → c.Holds objs Tryz.prog := by
 intro ci c h
 match ci, h with
 | 0, h => cases h; exact hPick
 | 1, h => cases h; exact hDF15
 | 2, h => cases h; exact hNew
 | 3, h => cases h; exact hQNew
 | 4, h => cases h; exact hTFill
 | 5, h => cases h; exact hQTFill
 | 6, h => cases h; exact hStore
 | 7, h => cases h; exact hQStore
 | 8, h => cases h; exact hINew
 | 9, h => cases h; exact hQINew
 | 10, h => cases h; exact hIStep
 | 11, h => cases h; exact hQIStep
 | 12, h => cases h; exact hIAlike
 | 13, h => cases h; exact hLast
 | 14, h => cases h; exact hQLast
 | 15, h => cases h; exact hCount
 | 16, h => cases h; exact hQCount
 | 17, h => cases h; exact hWords
 | 18, h => cases h; exact hQWords
 | 19, h => cases h; exact hSameWords
 | 20, h => cases h; exact hAi
 | n + 21, h => cases h
set_option maxRecDepth 10000 in
set_option maxHeartbeats 4000000 in
theorem bISB (P : Program) (hs : List (Nat × Nat × List Nat)) : ∀ env, is2Inv env → tIStepsL0.sat { cxHd P [lIS1, lIS2] with hints := hs } (ctrR cISteps) env := by
 rintro env ⟨a0, a1, a2, a3, a4, a5, a6, a7, a8, a9, a10, a11, a12, s, gi, ki, ci, gl, kl, cl, x20, x21, x22, x23, x24, x25, x26, x27, x28, x29, M, o0, o1, o2, i, rfl, h1, h2, h3, h4, hM, ht, hw, k0, k1, k2⟩
 rcases pick3 (x := gl i.toNat 0) with hp | hp | hp
 · exact bIS0 P hs h1 h2 h3 h4 hM ht hw k0 k1 k2 hp
 · exact bIS1 P hs h1 h2 h3 h4 hM ht hw k0 k1 k2 hp
 · exact bIS2 P hs h1 h2 h3 h4 hM ht hw k0 k1 k2 hp
set_option maxRecDepth 10000 in
set_option maxHeartbeats 4000000 in
theorem bISA (P : Program) (hs : List (Nat × Nat × List Nat)) : ∀ env, is1Inv env → tIStepsL1.sat { cxHd P [lIS1, lIS2] with hints := hs } (ctrR cISteps) env := by
 rintro env ⟨a0, a1, a2, a3, a4, a5, a6, a7, a8, a9, a10, a11, a12, s, gi, ki, ci, gl, kl, cl, x20, x21, x22, x23, x24, x25, x26, M, i, rfl, h1, h2, h3, h3', h4, hM, ht, hv, hw⟩
 have hl := hM.1
 unfold tIStepsL1
 repeat' (first
  | (first
    | (with_reducible refine st_need ?_ ?_
       focus (simp only [dn, reduceCtorEq, hl, va_map] <;> first | omega | assumption))
    | (with_reducible refine st_and ?_ ?_)
    | (with_reducible exact st_ok)
    | (with_reducible refine st_br (fun hc => ?_) (fun hc => ?_) <;> (simp only [dn, reduceCtorEq, hl, va_map] at hc) <;> (try (exfalso; first | contradiction | omega)))
    | (refine st_call (by rfl) (by simp only [dn, reduceCtorEq, hl, va_map] <;> rfl) ?_ (by simp only [out_store, fo_store] <;> rfl) (by simp only [dn] <;> rfl) ?_
       focus (first | exact ⟨_, _, _, rfl⟩ | exact ⟨_, _, _, rfl, hM.1⟩))
    | (with_reducible refine st_ret (by simp only [dn, reduceCtorEq, hl, va_map] <;> rfl) ?_
       (first | rfl | exact ⟨_, rfl⟩)))
  | with_reducible refine mk_insNil rfl (by simp only [dn] <;> rfl) ?_
  | with_reducible refine mk_rinsNil rfl (by simp only [dn] <;> rfl) ?_
  | (refine st_back (by rfl) (by simp only [dn, reduceCtorEq, hl, va_map] <;> rfl) (by simp only [dn] <;> rfl) (by rfl) ?_ ?_
     focus (rw [wrap_small (n := i + 1) (by omega) (by omega)]
            exact ⟨_, _, _, _, _, _, _, _, _, _, _, _, _, _, _, _, _, _, _, _, _, _, _, _, _, _, _, _, _, rfl, by omega, by omega, h3, h3', by rw [len_store]; exact h4, fine_store hM (hv _ (by omega)), ht, hv, hw⟩)
     focus (rw [wrap_small (n := i + 1) (by omega) (by omega)]; show ((ki : Int) - (i + 1)).toNat < ((ki : Int) - i).toNat; omega))
  | (refine st_loop (by rfl) (by simp only [dn, reduceCtorEq, hl, va_map] <;> rfl) (by simp only [dn] <;> rfl) ?_ (fun env' h => bISB P hs env' h)
     exact ⟨_, _, _, _, _, _, _, _, _, _, _, _, _, _, _, _, _, _, _, _, _, _, _, _, _, _, _, _, _, _, _, none, none, none, _, rfl, by omega, by omega, by omega, h4, hM, ht, hw, ih_none, ih_none, ih_none⟩)
  | fail "no step")
set_option maxRecDepth 10000 in
set_option maxHeartbeats 4000000 in
theorem vISteps (P : Program) (hs : List (Nat × Nat × List Nat)) : ∀ ins, ins.length = cISteps.nin → cISteps.pre ins → tISteps.sat { cxHd P [lIS1, lIS2] with hints := hs } (ctrR cISteps) ins := by
 rintro ins _ ⟨a0, a1, a2, a3, a4, a5, a6, a7, a8, a9, a10, a11, a12, s, gi, ki, ci, gl, kl, cl, rfl, hv, hw⟩
 by_cases h0 : fits15D a0 a1 a2 a3 a4 a5 a6 a7 a8 a9 a10 a11 a12 s = 0
 · have hf : (1 ≤ s ∧ s ≤ 4096) ∧ okT a0 a1 a2 a5 = true := by
    have h0' := h0
    unfold fits15D at h0'
    by_cases g : s < 1 ∨ 4096 < s
    · rw [if_pos g] at h0'; exact absurd h0' (by decide)
    · rw [if_neg g] at h0'
      cases gk : okT a0 a1 a2 a5
      · rw [if_pos (.inl gk)] at h0'; exact absurd h0' (by decide)
      · exact ⟨by omega, rfl⟩
   obtain ⟨hs1, ht⟩ := hf
   have e1 := out_new hs1.1 hs1.2
   have e2 := out_qnew hs1.1 hs1.2
   have e3 : ((MemSt.new s).W.length : Int) = s := by show ((List.replicate s.toNat (0 : Int)).length : Int) = s; rw [List.length_replicate]; omega
   have e4 : (MemSt.new s).W.length ≤ 4096 := by omega
   unfold tISteps
   repeat' (first
    | (first
      | (with_reducible refine st_need ?_ ?_
         focus (simp only [dn, reduceCtorEq, h0, va_map] <;> first | omega | assumption))
      | (with_reducible refine st_and ?_ ?_)
      | (with_reducible exact st_ok)
      | (with_reducible refine st_br (fun hc => ?_) (fun hc => ?_) <;> (simp only [dn, reduceCtorEq, h0, va_map] at hc) <;> (try (exfalso; first | contradiction | omega)))
      | (refine st_call (by rfl) (by simp only [dn, reduceCtorEq, h0, va_map] <;> rfl) ?_ (by simp only [out_dfits, h0, out_awk, e1, e2, out_TFill, out_QTFill] <;> rfl) (by simp only [dn] <;> rfl) ?_
         focus (first | exact ⟨_, _, _, _, _, _, _, _, _, _, _, _, _, _, rfl⟩ | exact ⟨_, rfl⟩ | rfl | exact ⟨_, _, _, _, _, _, _, _, _, _, _, _, _, _, rfl⟩ | exact ⟨_, _, _, _, _, _, _, _, _, _, _, _, _, _, rfl, e4⟩))
      | (with_reducible refine st_ret (by simp only [dn, reduceCtorEq, h0, va_map] <;> rfl) ?_
         (first | rfl | exact ⟨_, rfl⟩)))
    | (refine st_loop (by rfl) (by simp only [dn, reduceCtorEq, h0, va_map] <;> rfl) (by simp only [dn] <;> rfl) ?_ (fun env' h => bISA P hs env' h)
       exact ⟨_, _, _, _, _, _, _, _, _, _, _, _, _, _, _, _, _, _, _, _, _, _, _, _, _, _, _, _, _, rfl, by omega, by omega, by omega, by omega, by rw [len_fill15]; omega, fineFill15 (fine_new hs1.2) _ _ _ _ _ _ _ _ _ _ _ _, ht, hv, hw⟩)
    | fail "no step")
 · unfold tISteps
   repeat' (first
    | (first
      | (with_reducible refine st_need ?_ ?_
         focus (simp only [dn, reduceCtorEq, h0, va_map] <;> first | omega | assumption))
      | (with_reducible refine st_and ?_ ?_)
      | (with_reducible exact st_ok)
      | (with_reducible refine st_br (fun hc => ?_) (fun hc => ?_) <;> (simp only [dn, reduceCtorEq, h0, va_map] at hc) <;> (try (exfalso; first | contradiction | omega)))
      | (refine st_call (by rfl) (by simp only [dn, reduceCtorEq, h0, va_map] <;> rfl) ?_ (by simp only [out_dfits, out_awk] <;> rfl) (by simp only [dn] <;> rfl) ?_
         focus (first | exact ⟨_, _, _, _, _, _, _, _, _, _, _, _, _, _, rfl⟩ | exact ⟨_, rfl⟩ | rfl | exact ⟨_, _, _, _, _, _, _, _, _, _, _, _, _, _, rfl⟩ | exact ⟨_, _, _, _, _, _, _, _, _, _, _, _, _, _, rfl, e4⟩))
      | (with_reducible refine st_ret (by simp only [dn, reduceCtorEq, h0, va_map] <;> rfl) ?_
         (first | rfl | exact ⟨_, rfl⟩)))
    | fail "no step")
theorem hISteps : cISteps.Holds objs Tryz.prog := runCtr_holds (X := { cxHd Tryz.prog [lIS1, lIS2] with hints := hsISteps }) objsOk mixed hctsHd (callable _ Tryz.func10 (by kernel_rfl) (by kernel_rfl)) (by rintro ins _ ⟨_, _, _, _, _, _, _, _, _, _, _, _, _, _, _, _, _, _, _, _, rfl, _⟩; rfl) (by rw [rISteps]; exact vISteps _ _)
theorem insertSteps_walk {v1 v2 : Value} {n1 c1 n2 c2 : Nat} {g1 g2 : Nat → Nat → Int} (a0 a1 a2 a3 a4 a5 a6 a7 a8 a9 a10 a11 a12 s : Int) (W : World) (h1 : SliceAt W [some .u64] v1 n1 c1 g1) (h2 : SliceAt W actTs v2 n2 c2 g2) : Calls Tryz.prog 10 #[.agg #[.int .i64 a0, .int .i64 a1, .int .i64 a2, .int .i64 a3, .int .i64 a4, .int .i64 a5, .int .i64 a6, .int .i64 a7, .int .i64 a8, .int .i64 a9, .int .i64 a10, .int .i64 a11, .int .i64 a12], .int .i64 s, v1, v2] W fun e W' => e = .returned (.bool true) ∧ Below W.heap.size W W' :=
 hISteps.law rfl (ins := [.i a0, .i a1, .i a2, .i a3, .i a4, .i a5, .i a6, .i a7, .i a8, .i a9, .i a10, .i a11, .i a12, .i s, .f g1 n1, .i n1, .i c1, .f g2 n2, .i n2, .i c2]) (ρ := [ptrOf v1, ptrOf v2]) (vals := [.agg #[.int .i64 a0, .int .i64 a1, .int .i64 a2, .int .i64 a3, .int .i64 a4, .int .i64 a5, .int .i64 a6, .int .i64 a7, .int .i64 a8, .int .i64 a9, .int .i64 a10, .int .i64 a11, .int .i64 a12], .int .i64 s, v1, v2]) rfl ⟨_, _, _, _, _, _, _, _, _, _, _, _, _, _, _, _, _, _, _, _, rfl, fun j hj => wf_isW (h1.2.1 j hj 0 .u64 rfl), fun j hj => wf_isW (h2.2.1 j hj 2 .u64 rfl)⟩ rfl
  (DenL.cons ⟨fun _ _ => rfl, trivial, trivial, trivial, trivial, trivial, trivial, trivial, trivial, trivial, trivial, trivial, trivial, trivial, trivial⟩ (DenL.cons ⟨fun _ _ => rfl, trivial⟩ (DenL.cons (h1.den rfl (by simp) rfl rfl) (DenL.cons (h2.den rfl (by simp) rfl rfl) DenL.nil))))
  (Sat.inputs rfl (by intro m e hm; match m, hm with | 0, hm => cases hm; exact .inl ⟨_, _, rfl, h1.ro rfl⟩ | 1, hm => cases hm; exact .inl ⟨_, _, rfl, h2.ro rfl⟩ | m + 2, hm => cases hm))
end Go.Proofs.YtdldcofddfkkbaaGreat
